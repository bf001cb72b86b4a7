-- Laid by our mk.py through the kit's print.py, out of the translation. Not trusted: Lean checks it.
import Derived.Test.YtkikpkfambagnaaB0
import Derived.Test.YtkikpkfambagnaaB3
import Derived.Test.YtkikpkfambagnaaB4
import Derived.Test.YtkikpkfambagnaaB7
import Derived.Test.YtkikpkfambagnaaB11
import Derived.Test.YtkikpkfambagnaaB12
namespace Go.Proofs.Ytkikpkfambagnaa.B
open Go.RowKit Go.Proofs.YtkikpkfambagnaaW.PrintWords Go.Proofs.YtkikpkfambagnaaW.PrintLast Go.Proofs.YtkikpkfambagnaaW.PrintMore
attribute [local go_sem] max2_int min2_int max_two min_two max_three min_three max_four min_four   -- for this text's walks alone
set_option linter.unusedVariables false
set_option linter.unusedSimpArgs false

/-! ### laws_FnExactFromCovers: function 5 -/
mutual
def laws_FnExactFromCovers.j0 : Nat → Int → List (List Int) → Bool → List (List Int) → Bool → Bool → List Int → List Int → Option (Bool)
  | 0, _, _, _, _, _, _, _, _ => none
  | k + 1, x0, x1, x7, x8, x10, x44, x330000, x338000 => if x44 = true then (some false) else ((laws_toIntSS.f k x1).bind fun t339 => ((laws_eqIntSS.f k x8 t339).bind fun t342 => (if t342 = true then ((laws_markIntSS.f k x8 1).bind fun bt343 => (if bt343.1 < 0 then (laws_FnExactFromCovers.j1 k x0 x1 x7 true x330000 x338000) else ((laws_eqPoset.f k x338000 x330000).bind fun t345 => (if t345 = true then (laws_FnExactFromCovers.j1 k x0 x1 x7 (x10 != x7) x330000 x338000) else (laws_FnExactFromCovers.j1 k x0 x1 x7 true x330000 x338000))))) else (some false))))
def laws_FnExactFromCovers.j1 : Nat → Int → List (List Int) → Bool → Bool → List Int → List Int → Option (Bool)
  | 0, _, _, _, _, _, _ => none
  | k + 1, x0, x1, x7, x65, x330000, x338000 => if x65 = true then (some false) else ((laws_markPoset.f k x338000 1).bind fun bt346 => ((laws_heldPoset.f k bt346.2 1).bind fun t348 => (if t348 < 0 then (some false) else (if t348 = bt346.1 then ((laws_toIntSS.f k x1).bind fun t349 => ((impl_FromCovers.f k x0 t349).bind fun bt352 => ((laws_eqPoset.f k bt352.1 x330000).bind fun t357 => (if t357 = true then (laws_FnExactFromCovers.j2 k bt346.1 (bt352.2 != x7) bt346.2) else (laws_FnExactFromCovers.j2 k bt346.1 true bt346.2))))) else (some false)))))
def laws_FnExactFromCovers.j2 : Nat → Int → Bool → List Int → Option (Bool)
  | 0, _, _, _ => none
  | k + 1, x12, x92, x338000 => if x92 = true then (some false) else ((laws_heldPoset.f k x338000 1).bind fun t358 => (if t358 < 0 then (some false) else (if t358 = x12 then (some true) else (some false))))
end
def laws_FnExactFromCovers.f (k : Nat) (a0 : Int) (l1 : List (List Int)) : Option (Bool) := (laws_szIntSS.f k l1 1048576).bind fun t321 => (if t321 < 0 then (some true) else ((laws_toIntSS.f k l1).bind fun t322 => ((spec_FromCovers.f k a0 t322).bind fun bt325 => ((laws_toIntSS.f k l1).bind fun t330 => ((impl_FromCovers.f k a0 t330).bind fun bt333 => ((laws_eqPoset.f k bt333.1 bt325.1).bind fun t338 => (if t338 = true then (laws_FnExactFromCovers.j0 k a0 l1 bt325.2 t330 bt333.2 (bt333.2 != bt325.2) bt325.1 bt333.1) else (laws_FnExactFromCovers.j0 k a0 l1 bt325.2 t330 bt333.2 true bt325.1 bt333.1))))))))
theorem laws_FnExactFromCovers.mono_l : ∀ k, (∀ y0 y1 y2 y3 y4 y5 y6 y7, LeO (laws_FnExactFromCovers.j0 k y0 y1 y2 y3 y4 y5 y6 y7) (laws_FnExactFromCovers.j0 (k + 1) y0 y1 y2 y3 y4 y5 y6 y7)) ∧ (∀ y0 y1 y2 y3 y4 y5, LeO (laws_FnExactFromCovers.j1 k y0 y1 y2 y3 y4 y5) (laws_FnExactFromCovers.j1 (k + 1) y0 y1 y2 y3 y4 y5)) ∧ (∀ y0 y1 y2, LeO (laws_FnExactFromCovers.j2 k y0 y1 y2) (laws_FnExactFromCovers.j2 (k + 1) y0 y1 y2))
  | 0 => ⟨fun _ _ _ _ _ _ _ _ r h => by simp [laws_FnExactFromCovers.j0] at h, fun _ _ _ _ _ _ r h => by simp [laws_FnExactFromCovers.j1] at h, fun _ _ _ r h => by simp [laws_FnExactFromCovers.j2] at h⟩
  | k + 1 => by
    obtain ⟨ih0, ih1, ih2⟩ := laws_FnExactFromCovers.mono_l k
    refine ⟨?_, ?_, ?_⟩
    · intro y0 y1 y2 y3 y4 y5 y6 y7
      unfold laws_FnExactFromCovers.j0
      repeat' first
      | (with_reducible exact ih0 _ _ _ _ _ _ _ _)
      | (with_reducible exact ih1 _ _ _ _ _ _)
      | (with_reducible exact ih2 _ _ _)
      | (with_reducible exact impl_FromCovers.mono _ _ _)
      | (with_reducible exact laws_eqIntSS.mono _ _ _)
      | (with_reducible exact laws_eqPoset.mono _ _ _)
      | (with_reducible exact laws_heldPoset.mono _ _ _)
      | (with_reducible exact laws_markIntSS.mono _ _ _)
      | (with_reducible exact laws_markPoset.mono _ _ _)
      | (with_reducible exact laws_szIntSS.mono _ _ _)
      | (with_reducible exact laws_toIntSS.mono _ _)
      | (with_reducible exact spec_FromCovers.mono _ _ _)
      | (with_reducible exact LeO.refl _)
      | (with_reducible exact LeO.none _)
      | (with_reducible refine LeO.ite ?_ ?_)
      | (with_reducible refine LeO.bind ?_ (fun _ => ?_))
      | exact ih0 _ _ _ _ _ _ _ _
      | exact ih1 _ _ _ _ _ _
      | exact ih2 _ _ _
      | exact impl_FromCovers.mono _ _ _
      | exact laws_eqIntSS.mono _ _ _
      | exact laws_eqPoset.mono _ _ _
      | exact laws_heldPoset.mono _ _ _
      | exact laws_markIntSS.mono _ _ _
      | exact laws_markPoset.mono _ _ _
      | exact laws_szIntSS.mono _ _ _
      | exact laws_toIntSS.mono _ _
      | exact spec_FromCovers.mono _ _ _
      | exact LeO.none _
      | refine LeO.ite ?_ ?_
      | refine LeO.bind ?_ (fun _ => ?_)
    · intro y0 y1 y2 y3 y4 y5
      unfold laws_FnExactFromCovers.j1
      repeat' first
      | (with_reducible exact ih0 _ _ _ _ _ _ _ _)
      | (with_reducible exact ih1 _ _ _ _ _ _)
      | (with_reducible exact ih2 _ _ _)
      | (with_reducible exact impl_FromCovers.mono _ _ _)
      | (with_reducible exact laws_eqIntSS.mono _ _ _)
      | (with_reducible exact laws_eqPoset.mono _ _ _)
      | (with_reducible exact laws_heldPoset.mono _ _ _)
      | (with_reducible exact laws_markIntSS.mono _ _ _)
      | (with_reducible exact laws_markPoset.mono _ _ _)
      | (with_reducible exact laws_szIntSS.mono _ _ _)
      | (with_reducible exact laws_toIntSS.mono _ _)
      | (with_reducible exact spec_FromCovers.mono _ _ _)
      | (with_reducible exact LeO.refl _)
      | (with_reducible exact LeO.none _)
      | (with_reducible refine LeO.ite ?_ ?_)
      | (with_reducible refine LeO.bind ?_ (fun _ => ?_))
      | exact ih0 _ _ _ _ _ _ _ _
      | exact ih1 _ _ _ _ _ _
      | exact ih2 _ _ _
      | exact impl_FromCovers.mono _ _ _
      | exact laws_eqIntSS.mono _ _ _
      | exact laws_eqPoset.mono _ _ _
      | exact laws_heldPoset.mono _ _ _
      | exact laws_markIntSS.mono _ _ _
      | exact laws_markPoset.mono _ _ _
      | exact laws_szIntSS.mono _ _ _
      | exact laws_toIntSS.mono _ _
      | exact spec_FromCovers.mono _ _ _
      | exact LeO.none _
      | refine LeO.ite ?_ ?_
      | refine LeO.bind ?_ (fun _ => ?_)
    · intro y0 y1 y2
      unfold laws_FnExactFromCovers.j2
      repeat' first
      | (with_reducible exact ih0 _ _ _ _ _ _ _ _)
      | (with_reducible exact ih1 _ _ _ _ _ _)
      | (with_reducible exact ih2 _ _ _)
      | (with_reducible exact impl_FromCovers.mono _ _ _)
      | (with_reducible exact laws_eqIntSS.mono _ _ _)
      | (with_reducible exact laws_eqPoset.mono _ _ _)
      | (with_reducible exact laws_heldPoset.mono _ _ _)
      | (with_reducible exact laws_markIntSS.mono _ _ _)
      | (with_reducible exact laws_markPoset.mono _ _ _)
      | (with_reducible exact laws_szIntSS.mono _ _ _)
      | (with_reducible exact laws_toIntSS.mono _ _)
      | (with_reducible exact spec_FromCovers.mono _ _ _)
      | (with_reducible exact LeO.refl _)
      | (with_reducible exact LeO.none _)
      | (with_reducible refine LeO.ite ?_ ?_)
      | (with_reducible refine LeO.bind ?_ (fun _ => ?_))
      | exact ih0 _ _ _ _ _ _ _ _
      | exact ih1 _ _ _ _ _ _
      | exact ih2 _ _ _
      | exact impl_FromCovers.mono _ _ _
      | exact laws_eqIntSS.mono _ _ _
      | exact laws_eqPoset.mono _ _ _
      | exact laws_heldPoset.mono _ _ _
      | exact laws_markIntSS.mono _ _ _
      | exact laws_markPoset.mono _ _ _
      | exact laws_szIntSS.mono _ _ _
      | exact laws_toIntSS.mono _ _
      | exact spec_FromCovers.mono _ _ _
      | exact LeO.none _
      | refine LeO.ite ?_ ?_
      | refine LeO.bind ?_ (fun _ => ?_)
theorem laws_FnExactFromCovers.mono : ∀ a0 a1 k, LeO (laws_FnExactFromCovers.f k a0 a1) (laws_FnExactFromCovers.f (k + 1) a0 a1) := by
  intro a0 a1 k
  obtain ⟨ih0, ih1, ih2⟩ := laws_FnExactFromCovers.mono_l k
  unfold laws_FnExactFromCovers.f
  repeat' first
      | (with_reducible exact ih0 _ _ _ _ _ _ _ _)
      | (with_reducible exact ih1 _ _ _ _ _ _)
      | (with_reducible exact ih2 _ _ _)
      | (with_reducible exact impl_FromCovers.mono _ _ _)
      | (with_reducible exact laws_eqIntSS.mono _ _ _)
      | (with_reducible exact laws_eqPoset.mono _ _ _)
      | (with_reducible exact laws_heldPoset.mono _ _ _)
      | (with_reducible exact laws_markIntSS.mono _ _ _)
      | (with_reducible exact laws_markPoset.mono _ _ _)
      | (with_reducible exact laws_szIntSS.mono _ _ _)
      | (with_reducible exact laws_toIntSS.mono _ _)
      | (with_reducible exact spec_FromCovers.mono _ _ _)
      | (with_reducible exact LeO.refl _)
      | (with_reducible exact LeO.none _)
      | (with_reducible refine LeO.ite ?_ ?_)
      | (with_reducible refine LeO.bind ?_ (fun _ => ?_))
      | exact ih0 _ _ _ _ _ _ _ _
      | exact ih1 _ _ _ _ _ _
      | exact ih2 _ _ _
      | exact impl_FromCovers.mono _ _ _
      | exact laws_eqIntSS.mono _ _ _
      | exact laws_eqPoset.mono _ _ _
      | exact laws_heldPoset.mono _ _ _
      | exact laws_markIntSS.mono _ _ _
      | exact laws_markPoset.mono _ _ _
      | exact laws_szIntSS.mono _ _ _
      | exact laws_toIntSS.mono _ _
      | exact spec_FromCovers.mono _ _ _
      | exact LeO.none _
      | refine LeO.ite ?_ ?_
      | refine LeO.bind ?_ (fun _ => ?_)
set_option maxHeartbeats 8000000 in
set_option maxRecDepth 100000 in
theorem laws_FnExactFromCovers.calls (k : Nat) (a0 : Int) (A1 : Option Addr) (c1 : Nat) (l1 : List (List Int)) (r : Bool) (w : World) (hr1 : Kd.C (Kd.slice 3 (Kd.int .i64)) w A1 l1.length l1) (hc1 : l1.length ≤ c1) (h : laws_FnExactFromCovers.f k a0 l1 = some r) :
    Calls Try.prog 5 #[.int .i64 a0, .slice A1 l1.length c1] w fun e w' => e = .returned (.bool r) ∧ Below w.heap.size w w' := by
  have hu24 := Try.underlying24
  have HR1 := Aside0.mk hr1
  have HC1 := Aside0.mk hc1
  clear hr1 hc1
  have HB := Aside0.mk (Below.refl w.heap.size w)
  have H : ((laws_szIntSS.f k l1 1048576).bind fun t321 => (if t321 < 0 then (some true) else ((laws_toIntSS.f k l1).bind fun t322 => ((spec_FromCovers.f k a0 t322).bind fun bt325 => ((laws_toIntSS.f k l1).bind fun t330 => ((impl_FromCovers.f k a0 t330).bind fun bt333 => ((laws_eqPoset.f k bt333.1 bt325.1).bind fun t338 => (if t338 = true then (laws_FnExactFromCovers.j0 k a0 l1 bt325.2 t330 bt333.2 (bt333.2 != bt325.2) bt325.1 bt333.1) else (laws_FnExactFromCovers.j0 k a0 l1 bt325.2 t330 bt333.2 true bt325.1 bt333.1))))))))) = some r := h
  clear h
  replace H := Option.bind_eq_some_iff.mp H
  obtain ⟨t321, A30, H⟩ := H
  replace H : (if t321 < 0 then (some true) else ((laws_toIntSS.f k l1).bind fun t322 => ((spec_FromCovers.f k a0 t322).bind fun bt325 => ((laws_toIntSS.f k l1).bind fun t330 => ((impl_FromCovers.f k a0 t330).bind fun bt333 => ((laws_eqPoset.f k bt333.1 bt325.1).bind fun t338 => (if t338 = true then (laws_FnExactFromCovers.j0 k a0 l1 bt325.2 t330 bt333.2 (bt333.2 != bt325.2) bt325.1 bt333.1) else (laws_FnExactFromCovers.j0 k a0 l1 bt325.2 t330 bt333.2 true bt325.1 bt333.1)))))))) = some r := H
  have A3 := Aside0.mk A30
  clear A30
  by_cases c4 : t321 < 0
  · rw [if_pos c4] at H
    have c4b0 : decide (t321 < 0) = true := decide_eq_true c4
    clear c4
    obtain rfl := Option.some.inj H
    go_enter Try.func5, Try.ntmps5
    go_wp2_with (first | ((with_reducible refine gate_callee (f := 14) rfl ?_); refine goesL_ (some 18) rfl rfl Try.func14 (by kernel_rfl) rfl #[.slice A1 l1.length c1, .int .i64 1048576] rfl (by (try simp only [List.map_toArray, List.map_cons, List.map_nil]); first | done | rfl | (simp only [List.length_drop, List.length_take]; rfl)) ?_; (with_reducible refine (laws_szIntSS.calls k _ _ l1 1048576 t321 _ ?side1 ?side2 A3.out).mono ?_); (case side1 => repeat (first | exact HR1.out | (with_reducible refine Kd.C_alloc ?_ _) | (with_reducible refine Kd.C_drewN ?_ _) | (with_reducible refine Kd.C_drew ?_))); (case side2 => exact HC1.out); rintro e w' ⟨rfl, ⟨nd, rfl⟩⟩; refine ⟨_, rfl, ?_⟩))
    go_ret
    exact ⟨by first | rfl | (simp [errW_none, errW_some] <;> rfl) | (simp [*, errW_none, errW_some] <;> rfl), by repeat (first | (with_reducible first | exact HB.out | apply below_alloc | apply pw_below_drewN | apply below_drew1) | exact HB.out)⟩
  · rw [if_neg c4] at H
    have c4b0 : decide (t321 < 0) = false := decide_eq_false c4
    clear c4
    replace H := Option.bind_eq_some_iff.mp H
    obtain ⟨t322, A50, H⟩ := H
    replace H : ((spec_FromCovers.f k a0 t322).bind fun bt325 => ((laws_toIntSS.f k l1).bind fun t330 => ((impl_FromCovers.f k a0 t330).bind fun bt333 => ((laws_eqPoset.f k bt333.1 bt325.1).bind fun t338 => (if t338 = true then (laws_FnExactFromCovers.j0 k a0 l1 bt325.2 t330 bt333.2 (bt333.2 != bt325.2) bt325.1 bt333.1) else (laws_FnExactFromCovers.j0 k a0 l1 bt325.2 t330 bt333.2 true bt325.1 bt333.1)))))) = some r := H
    have A5 := Aside0.mk A50
    clear A50
    replace H := Option.bind_eq_some_iff.mp H
    obtain ⟨⟨t325, t328⟩, A60, H⟩ := H
    replace H : ((laws_toIntSS.f k l1).bind fun t330 => ((impl_FromCovers.f k a0 t330).bind fun bt333 => ((laws_eqPoset.f k bt333.1 t325).bind fun t338 => (if t338 = true then (laws_FnExactFromCovers.j0 k a0 l1 t328 t330 bt333.2 (bt333.2 != t328) t325 bt333.1) else (laws_FnExactFromCovers.j0 k a0 l1 t328 t330 bt333.2 true t325 bt333.1))))) = some r := H
    have A6 := Aside0.mk A60
    clear A60
    replace H := Option.bind_eq_some_iff.mp H
    obtain ⟨t330, A70, H⟩ := H
    replace H : ((impl_FromCovers.f k a0 t330).bind fun bt333 => ((laws_eqPoset.f k bt333.1 t325).bind fun t338 => (if t338 = true then (laws_FnExactFromCovers.j0 k a0 l1 t328 t330 bt333.2 (bt333.2 != t328) t325 bt333.1) else (laws_FnExactFromCovers.j0 k a0 l1 t328 t330 bt333.2 true t325 bt333.1)))) = some r := H
    have A7 := Aside0.mk A70
    clear A70
    replace H := Option.bind_eq_some_iff.mp H
    obtain ⟨⟨t333, t336⟩, A80, H⟩ := H
    replace H : ((laws_eqPoset.f k t333 t325).bind fun t338 => (if t338 = true then (laws_FnExactFromCovers.j0 k a0 l1 t328 t330 t336 (t336 != t328) t325 t333) else (laws_FnExactFromCovers.j0 k a0 l1 t328 t330 t336 true t325 t333))) = some r := H
    have A8 := Aside0.mk A80
    clear A80
    have HC9 := Aside0.mk H
    clear H
    go_enter Try.func5, Try.ntmps5
    go_upto_region 8 with (first | ((with_reducible refine gate_callee (f := 14) rfl ?_); refine goesL_ (some 18) rfl rfl Try.func14 (by kernel_rfl) rfl #[.slice A1 l1.length c1, .int .i64 1048576] rfl (by (try simp only [List.map_toArray, List.map_cons, List.map_nil]); first | done | rfl | (simp only [List.length_drop, List.length_take]; rfl)) ?_; (with_reducible refine (laws_szIntSS.calls k _ _ l1 1048576 t321 _ ?side1 ?side2 A3.out).mono ?_); (case side1 => repeat (first | exact HR1.out | (with_reducible refine Kd.C_alloc ?_ _) | (with_reducible refine Kd.C_drewN ?_ _) | (with_reducible refine Kd.C_drew ?_))); (case side2 => exact HC1.out); rintro e w' ⟨rfl, ⟨nd, rfl⟩⟩; refine ⟨_, rfl, ?_⟩) | ((with_reducible refine gate_callee (f := 16) rfl ?_); refine goesL_ (some 24) rfl rfl Try.func16 (by kernel_rfl) rfl #[.slice A1 l1.length c1] rfl (by (try simp only [List.map_toArray, List.map_cons, List.map_nil]); first | done | rfl | (simp only [List.length_drop, List.length_take]; rfl)) ?_; (with_reducible refine (laws_toIntSS.calls k _ _ l1 t322 _ ?side1 ?side2 A5.out).mono ?_); (case side1 => repeat (first | exact HR1.out | (with_reducible refine Kd.C_alloc ?_ _) | (with_reducible refine Kd.C_drewN ?_ _) | (with_reducible refine Kd.C_drew ?_))); (case side2 => exact HC1.out); rintro e w10 ⟨v323, rfl, ho0, hb⟩; refine ⟨_, rfl, ?_⟩; obtain ⟨N11, hN11⟩ := num_of hb; replace hN11 := Aside0.mk hN11; have n0_ := Aside0.mk (Kd.S_lower (Kd.S_numN hN11.out ho0) (below_size (by repeat (first | (with_reducible first | exact HB.out | apply below_alloc | apply pw_below_drewN | apply below_drew1) | exact HB.out)))); have n1_ := Aside0.mk (below_step (by repeat (first | (with_reducible first | exact HB.out | apply below_alloc | apply pw_below_drewN | apply below_drew1) | exact HB.out)) hb); clear HB; have HO324 := n0_; have HB := n1_; clear n0_ n1_; (try clear hb); (try clear hb2); (try clear hk); (try clear hi); (try clear ho0); obtain ⟨Ao12, co12, eo12⟩ := Kd.S_slice HO324.out; subst eo12) | ((with_reducible refine gate_callee (f := 15) rfl ?_); refine goesL_ (some 25) rfl rfl Try.func15 (by kernel_rfl) rfl #[.int .i64 a0, .slice Ao12 t322.length co12] rfl (by (try simp only [List.map_toArray, List.map_cons, List.map_nil]); first | done | rfl | (simp only [List.length_drop, List.length_take]; rfl)) ?_; (with_reducible refine (spec_FromCovers.calls k a0 _ _ t322 t325 t328 _ ?side1 ?side2 A6.out).mono ?_); (case side1 => repeat (first | exact (Kd.S_reads' HO324.out).2.2 | (with_reducible refine Kd.C_alloc ?_ _) | (with_reducible refine Kd.C_drewN ?_ _) | (with_reducible refine Kd.C_drew ?_))); (case side2 => exact (Kd.S_reads' HO324.out).2.1); rintro e w13 ⟨v326, rfl, ho0, hb⟩; refine ⟨_, rfl, ?_⟩; obtain ⟨N14, hN14⟩ := num_of hb; replace hN14 := Aside0.mk hN14; have n0_ := Aside0.mk (Kd.S_numE hN14.out (Kd.S_told (Kd.S_old (by (with_reducible repeat (first | apply Kd.S_alloc | apply Kd.S_drewN | apply Kd.S_drew)); exact HO324.out) hb) (Kd.R_base ho0))); have n1_ := Aside0.mk (Kd.R_lower (Kd.R_numN hN14.out ho0) (below_size (by repeat (first | (with_reducible first | exact HB.out | apply below_alloc | apply pw_below_drewN | apply below_drew1) | exact HB.out)))); have n2_ := Aside0.mk (below_step (by repeat (first | (with_reducible first | exact HB.out | apply below_alloc | apply pw_below_drewN | apply below_drew1) | exact HB.out)) hb); clear HO324; clear HB; have HO324 := n0_; have HO327 := n1_; have HB := n2_; clear n0_ n1_ n2_; (try clear hb); (try clear hb2); (try clear hk); (try clear hi); (try clear ho0)) | ((with_reducible refine gate_dst (N := 6) rfl ?_); refine box_event ?hg (N := 6) ?hd (cs := #[.slice none 0 0]) (t := 24) ?hr ?_; (case hd => rfl); (case hg => rfl); (case hr => first | (go_simp; done) | (go_simp; rfl)); intro gb329 hg w15 hbox hb; have n0_ := Aside0.mk (Kd.S_below (by (with_reducible repeat (first | apply Kd.S_alloc | apply Kd.S_drewN | apply Kd.S_drew)); exact HO324.out) hb); have n1_ := Aside0.mk (Kd.R_below (by (with_reducible repeat (first | apply Kd.R_alloc | apply Kd.R_drewN | apply Kd.R_drew)); exact HO327.out) hb); have n2_ := Aside0.mk (below_step (by repeat (first | (with_reducible first | exact HB.out | apply below_alloc | apply pw_below_drewN | apply below_drew1) | exact HB.out)) hb); have n3_ := Aside0.mk (hbox); have n4_ := Aside0.mk ((by rw [hg]; exact (below_size (by repeat (first | (with_reducible first | exact HB.out | apply below_alloc | apply pw_below_drewN | apply below_drew1) | exact HB.out))) : w.heap.size ≤ gb329)); have n5_ := Aside0.mk ((by rw [hg]; exact (below_size (by repeat (first | (with_reducible first | exact HB.out | apply below_alloc | apply pw_below_drewN | apply below_drew1) | exact HB.out))) : w.heap.size ≤ gb329)); clear HO324; clear HO327; clear HB; have HO324 := n0_; have HO327 := n1_; have HB := n2_; have BK329 := n3_; have GW329 := n4_; have GE329 := n5_; clear n0_ n1_ n2_ n3_ n4_ n5_; clear hb hbox hg; obtain ⟨Ao16, co16, eo16⟩ := Kd.R_slice HO327.out; subst eo16; have hcz17_0 : w15.cell? ⟨gb329, 0, none⟩ = some (.slice none 0 0) := (blk_cell BK329.out 0).trans rfl; have hfz17_0 := blk_frozen BK329.out 0) | ((with_reducible refine gate_callee (f := 16) rfl ?_); refine goesL_ (some 29) rfl rfl Try.func16 (by kernel_rfl) rfl #[.slice A1 l1.length c1] rfl (by (try simp only [List.map_toArray, List.map_cons, List.map_nil]); first | done | rfl | (simp only [List.length_drop, List.length_take]; rfl)) ?_; (with_reducible refine (laws_toIntSS.calls k _ _ l1 t330 _ ?side1 ?side2 A7.out).mono ?_); (case side1 => exact Kd.C_below HR1.out (by repeat (first | (with_reducible first | exact HB.out | apply below_alloc | apply pw_below_drewN | apply below_drew1 | refine below_set ?_ GE329.out) | exact HB.out))); (case side2 => exact HC1.out); rintro e w18 ⟨v331, rfl, ho0, hb⟩; refine ⟨_, rfl, ?_⟩; obtain ⟨N19, hN19⟩ := num_of hb; replace hN19 := Aside0.mk hN19; have n0_ := Aside0.mk (Kd.S_numE hN19.out (Kd.S_told (Kd.S_old (by (with_reducible repeat (first | apply Kd.S_alloc | apply Kd.S_drewN | apply Kd.S_drew)); exact (Kd.S_mono (Kd.S_far (p := ⟨gb329, 0, none⟩) (Kd.S_types HO324.out BK329.out (by decide)) (fun _ hk => hk.2) (.slice Ao16 t325.length co16)) (fun _ h_ => h_.1))) hb) (Kd.S_base ho0))); have n1_ := Aside0.mk (Kd.R_numE hN19.out (Kd.R_old (by (with_reducible repeat (first | apply Kd.R_alloc | apply Kd.R_drewN | apply Kd.R_drew)); exact (Kd.R_mono (Kd.R_far (p := ⟨gb329, 0, none⟩) (Kd.R_types HO327.out BK329.out (by decide)) (fun _ hk => hk.2) (.slice Ao16 t325.length co16)) (fun _ h_ => h_.1))) hb)); have n2_ := Aside0.mk (Kd.S_lower (Kd.S_new' (Kd.S_new' (Kd.S_numN hN19.out ho0) (Kd.S_lt (by (with_reducible repeat (first | apply Kd.S_alloc | apply Kd.S_drewN | apply Kd.S_drew)); exact (Kd.S_mono (Kd.S_far (p := ⟨gb329, 0, none⟩) (Kd.S_types HO324.out BK329.out (by decide)) (fun _ hk => hk.2) (.slice Ao16 t325.length co16)) (fun _ h_ => h_.1))))) (Kd.R_lt (by (with_reducible repeat (first | apply Kd.R_alloc | apply Kd.R_drewN | apply Kd.R_drew)); exact (Kd.R_mono (Kd.R_far (p := ⟨gb329, 0, none⟩) (Kd.R_types HO327.out BK329.out (by decide)) (fun _ hk => hk.2) (.slice Ao16 t325.length co16)) (fun _ h_ => h_.1))))) (below_size (by repeat (first | (with_reducible first | exact HB.out | apply below_alloc | apply pw_below_drewN | apply below_drew1 | refine below_set ?_ GE329.out) | exact HB.out)))); have n3_ := Aside0.mk (blk_below (g := gb329) (o := .cells #[.slice Ao16 t325.length co16] 24 (0, 0)) (by (with_reducible repeat (first | refine blk_drewN ?_ _ | refine blk_drew ?_ | refine blk_alloc ?_ _)); refine blk_put (cs := #[.slice none 0 0]) ?_ 0 _ rfl; (with_reducible repeat (first | refine blk_drewN ?_ _ | refine blk_drew ?_ | refine blk_alloc ?_ _)); exact BK329.out) hb); have n4_ := Aside0.mk (below_step (by repeat (first | (with_reducible first | exact HB.out | apply below_alloc | apply pw_below_drewN | apply below_drew1 | refine below_set ?_ GE329.out) | exact HB.out)) hb); clear HO324; clear HO327; clear BK329; clear HB; have HO324 := n0_; have HO327 := n1_; have HO332 := n2_; have BK329 := n3_; have HB := n4_; clear n0_ n1_ n2_ n3_ n4_; (try clear hb); (try clear hb2); (try clear hk); (try clear hi); (try clear ho0); obtain ⟨Ao20, co20, eo20⟩ := Kd.S_slice HO332.out; subst eo20) | ((with_reducible refine gate_callee (f := 17) rfl ?_); refine goesL_ (some 33) rfl rfl Try.func17 (by kernel_rfl) rfl #[.int .i64 a0, .slice Ao20 t330.length co20] rfl (by (try simp only [List.map_toArray, List.map_cons, List.map_nil]); first | done | rfl | (simp only [List.length_drop, List.length_take]; rfl)) ?_; (with_reducible refine (impl_FromCovers.calls k a0 _ _ t330 t333 t336 _ ?side1 ?side2 A8.out).mono ?_); (case side1 => repeat (first | exact (Kd.S_reads' HO332.out).2.2 | (with_reducible refine Kd.C_alloc ?_ _) | (with_reducible refine Kd.C_drewN ?_ _) | (with_reducible refine Kd.C_drew ?_))); (case side2 => exact (Kd.S_reads' HO332.out).2.1); rintro e w21 ⟨v334, rfl, ho0, hb⟩; refine ⟨_, rfl, ?_⟩; obtain ⟨N22, hN22⟩ := num_of hb; replace hN22 := Aside0.mk hN22; have n0_ := Aside0.mk (Kd.S_numE hN22.out (Kd.S_told (Kd.S_old (by (with_reducible repeat (first | apply Kd.S_alloc | apply Kd.S_drewN | apply Kd.S_drew)); exact HO324.out) hb) (Kd.R_base ho0))); have n1_ := Aside0.mk (Kd.R_numE hN22.out (Kd.R_told (Kd.R_old (by (with_reducible repeat (first | apply Kd.R_alloc | apply Kd.R_drewN | apply Kd.R_drew)); exact HO327.out) hb) (Kd.R_base ho0))); have n2_ := Aside0.mk (Kd.S_numE hN22.out (Kd.S_told (Kd.S_old (by (with_reducible repeat (first | apply Kd.S_alloc | apply Kd.S_drewN | apply Kd.S_drew)); exact HO332.out) hb) (Kd.R_base ho0))); have n3_ := Aside0.mk (Kd.R_lower (Kd.R_new' (Kd.R_numN hN22.out ho0) (Kd.R_lt (by (with_reducible repeat (first | apply Kd.R_alloc | apply Kd.R_drewN | apply Kd.R_drew)); exact HO327.out))) (below_size (by repeat (first | (with_reducible first | exact HB.out | apply below_alloc | apply pw_below_drewN | apply below_drew1 | refine below_set ?_ GE329.out) | exact HB.out)))); have n4_ := Aside0.mk (blk_below (g := gb329) (o := .cells #[.slice Ao16 t325.length co16] 24 (0, 0)) (by (with_reducible repeat (first | refine blk_drewN ?_ _ | refine blk_drew ?_ | refine blk_alloc ?_ _)); exact BK329.out) hb); have n5_ := Aside0.mk (below_step (by repeat (first | (with_reducible first | exact HB.out | apply below_alloc | apply pw_below_drewN | apply below_drew1 | refine below_set ?_ GE329.out) | exact HB.out)) hb); clear HO324; clear HO327; clear HO332; clear BK329; clear HB; have HO324 := n0_; have HO327 := n1_; have HO332 := n2_; have HO335 := n3_; have BK329 := n4_; have HB := n5_; clear n0_ n1_ n2_ n3_ n4_ n5_; (try clear hb); (try clear hb2); (try clear hk); (try clear hi); (try clear ho0)) | ((with_reducible refine gate_dst (N := 9) rfl ?_); refine box_event ?hg (N := 9) ?hd (cs := #[.slice none 0 0]) (t := 24) ?hr ?_; (case hd => rfl); (case hg => rfl); (case hr => first | (go_simp; done) | (go_simp; rfl)); intro gb337 hg w23 hbox hb; have n0_ := Aside0.mk (Kd.S_below (by (with_reducible repeat (first | apply Kd.S_alloc | apply Kd.S_drewN | apply Kd.S_drew)); exact HO324.out) hb); have n1_ := Aside0.mk (Kd.R_below (by (with_reducible repeat (first | apply Kd.R_alloc | apply Kd.R_drewN | apply Kd.R_drew)); exact HO327.out) hb); have n2_ := Aside0.mk (Kd.S_below (by (with_reducible repeat (first | apply Kd.S_alloc | apply Kd.S_drewN | apply Kd.S_drew)); exact HO332.out) hb); have n3_ := Aside0.mk (Kd.R_below (by (with_reducible repeat (first | apply Kd.R_alloc | apply Kd.R_drewN | apply Kd.R_drew)); exact HO335.out) hb); have n4_ := Aside0.mk (blk_below (g := gb329) (o := .cells #[.slice Ao16 t325.length co16] 24 (0, 0)) (by (with_reducible repeat (first | refine blk_drewN ?_ _ | refine blk_drew ?_ | refine blk_alloc ?_ _)); exact BK329.out) hb); have n5_ := Aside0.mk (below_step (by repeat (first | (with_reducible first | exact HB.out | apply below_alloc | apply pw_below_drewN | apply below_drew1 | refine below_set ?_ GE329.out) | exact HB.out)) hb); have n6_ := Aside0.mk (hbox); have n7_ := Aside0.mk ((by rw [hg]; exact (below_size (by repeat (first | (with_reducible first | exact HB.out | apply below_alloc | apply pw_below_drewN | apply below_drew1 | refine below_set ?_ GE329.out) | exact HB.out))) : w.heap.size ≤ gb337)); have n8_ := Aside0.mk ((by rw [hg]; exact (below_size (by repeat (first | (with_reducible first | exact HB.out | apply below_alloc | apply pw_below_drewN | apply below_drew1 | refine below_set ?_ GE329.out) | exact HB.out))) : w.heap.size ≤ gb337)); have n9_ := Aside0.mk ((by rw [hg]; exact Nat.ne_of_lt (blk_lt (g := gb329) (o := .cells #[.slice Ao16 t325.length co16] 24 (0, 0)) (by (with_reducible repeat (first | refine blk_drewN ?_ _ | refine blk_drew ?_ | refine blk_alloc ?_ _)); exact BK329.out)) : gb329 ≠ gb337)); have n10_ := Aside0.mk ((by rw [hg]; exact Nat.ne_of_gt (blk_lt (g := gb329) (o := .cells #[.slice Ao16 t325.length co16] 24 (0, 0)) (by (with_reducible repeat (first | refine blk_drewN ?_ _ | refine blk_drew ?_ | refine blk_alloc ?_ _)); exact BK329.out)) : gb337 ≠ gb329)); clear HO324; clear HO327; clear HO332; clear HO335; clear BK329; clear HB; have HO324 := n0_; have HO327 := n1_; have HO332 := n2_; have HO335 := n3_; have BK329 := n4_; have HB := n5_; have BK337 := n6_; have GW337 := n7_; have GE337 := n8_; have NB329_337 := n9_; have NB337_329 := n10_; clear n0_ n1_ n2_ n3_ n4_ n5_ n6_ n7_ n8_ n9_ n10_; clear hb hbox hg; obtain ⟨Ao24, co24, eo24⟩ := Kd.R_slice HO335.out; subst eo24; have hnb25 := NB337_329.out; have hnc25 := NB329_337.out; have hcz26_0 : w23.cell? ⟨gb337, 0, none⟩ = some (.slice none 0 0) := (blk_cell BK337.out 0).trans rfl; have hfz26_0 := blk_frozen BK337.out 0))
    (try simp only [Act.put, List.setIfInBounds_toArray, List.set_cons_zero, List.set_cons_succ])
    go_cut [44] (fun v44 wc => ∃ (kq : Nat) (x44_8 : Bool), v44 = .bool x44_8 ∧ Aside0 (laws_FnExactFromCovers.j0 kq a0 l1 t328 t330 t336 x44_8 t325 t333 = some r) ∧ Aside0 (kq ≤ k) ∧ Aside0 (Kd.S (Kd.slice 3 (Kd.int .i64)) 22 wc w.heap.size (fun k_ => some k_ ≠ ((.slice Ao16 t325.length co16) : Value).ownBlock ∧ some k_ ≠ ((.slice Ao24 t333.length co24) : Value).ownBlock ∧ N19 ≤ k_ ∧ k_ < N22) (.slice Ao20 t330.length co20) t330) ∧ Aside0 (Kd.R (Kd.int .i64) 3 wc w.heap.size (fun k_ => some k_ ≠ ((.slice Ao24 t333.length co24) : Value).ownBlock ∧ N14 ≤ k_ ∧ k_ < N19 ∧ k_ < N22) (.slice Ao16 t325.length co16) t325) ∧ Aside0 (Kd.R (Kd.int .i64) 3 wc w.heap.size (fun k_ => some k_ ≠ ((.slice Ao16 t325.length co16) : Value).ownBlock ∧ N22 ≤ k_) (.slice Ao24 t333.length co24) t333) ∧ Aside0 (wc.heap[gb329]? = some (.cells #[(.slice Ao16 t325.length co16)] 24 (0, 0))) ∧ Aside0 (wc.heap[gb337]? = some (.cells #[(.slice Ao24 t333.length co24)] 24 (0, 0))) ∧ Aside0 (Below w.heap.size w wc))
    case first =>
      have H := HC9.out
      clear HC9
      replace H := Option.bind_eq_some_iff.mp H
      obtain ⟨t338, A270, H⟩ := H
      replace H : (if t338 = true then (laws_FnExactFromCovers.j0 k a0 l1 t328 t330 t336 (t336 != t328) t325 t333) else (laws_FnExactFromCovers.j0 k a0 l1 t328 t330 t336 true t325 t333)) = some r := H
      have A27 := Aside0.mk A270
      clear A270
      by_cases c28 : t338 = true
      · subst c28
        have H1 : (laws_FnExactFromCovers.j0 k a0 l1 t328 t330 t336 (t336 != t328) t325 t333) = some r := by rw [if_pos rfl] at H; exact H
        clear H
        have H := H1
        clear H1
        have H' := Aside0.mk H
        clear H
        have hnb29 := NB337_329.out
        have hnc29 := NB329_337.out
        have hcz30_0 : w23.cell? ⟨gb337, 0, none⟩ = some (.slice none 0 0) := (blk_cell BK337.out 0).trans rfl
        have hfz30_0 := blk_frozen BK337.out 0
        have hcz31_0 : w23.cell? ⟨gb329, 0, none⟩ = some (.slice Ao16 t325.length co16) := (blk_cell BK329.out 0).trans rfl
        have hfz31_0 := blk_frozen BK329.out 0
        go_wp2_with (first | ((with_reducible refine gate_callee (f := 9) rfl ?_); refine goesL_ (some 38) rfl rfl Try.func9 (by kernel_rfl) rfl #[.agg #[.slice Ao24 t333.length co24], .agg #[.slice Ao16 t325.length co16]] rfl (by (try simp only [List.map_toArray, List.map_cons, List.map_nil]); first | done | rfl | (simp only [List.length_drop, List.length_take]; rfl)) ?_; (with_reducible refine (laws_eqPoset.calls k _ _ t333 _ _ t325 true _ ?side1 ?side2 ?side3 ?side4 A27.out).mono ?_); (case side1 => refine (Kd.R_reads' (e := 3) (base := w.heap.size) (ok := fun k_ => ((True ∧ N22 ≤ k_) ∧ some k_ ≠ (.slice Ao16 t325.length co16 : Value).ownBlock)) (n := t333.length) (c := co24) ?_).2.2; exact (by (with_reducible repeat (first | apply Kd.R_alloc | apply Kd.R_drewN | apply Kd.R_drew)); exact (Kd.R_mono (Kd.R_far (p := ⟨gb337, 0, none⟩) (Kd.R_types HO335.out BK337.out (by decide)) (fun _ hk => hk.2) (.slice Ao24 t333.length co24)) (fun _ h_ => h_.1)))); (case side2 => exact (Kd.R_reads' HO335.out).2.1); (case side3 => refine (Kd.R_reads' (e := 3) (base := w.heap.size) (ok := fun k_ => ((((True ∧ N14 ≤ k_) ∧ k_ < N19) ∧ some k_ ≠ (.slice Ao24 t333.length co24 : Value).ownBlock) ∧ k_ < N22)) (n := t325.length) (c := co16) ?_).2.2; exact (by (with_reducible repeat (first | apply Kd.R_alloc | apply Kd.R_drewN | apply Kd.R_drew)); exact (Kd.R_mono (Kd.R_far (p := ⟨gb337, 0, none⟩) (Kd.R_types HO327.out BK337.out (by decide)) (fun _ hk => hk.2) (.slice Ao24 t333.length co24)) (fun _ h_ => h_.1)))); (case side4 => exact (Kd.R_reads' HO327.out).2.1); rintro e w32 ⟨rfl, hb⟩; refine ⟨_, rfl, ?_⟩; obtain ⟨N33, hN33⟩ := num_of hb; replace hN33 := Aside0.mk hN33; have n0_ := Aside0.mk (Kd.S_numE hN33.out (Kd.S_old (by (with_reducible repeat (first | apply Kd.S_alloc | apply Kd.S_drewN | apply Kd.S_drew)); exact (Kd.S_mono (Kd.S_far (p := ⟨gb337, 0, none⟩) (Kd.S_types HO324.out BK337.out (by decide)) (fun _ hk => hk.2) (.slice Ao24 t333.length co24)) (fun _ h_ => h_.1))) hb)); have n1_ := Aside0.mk (Kd.R_numE hN33.out (Kd.R_old (by (with_reducible repeat (first | apply Kd.R_alloc | apply Kd.R_drewN | apply Kd.R_drew)); exact (Kd.R_mono (Kd.R_far (p := ⟨gb337, 0, none⟩) (Kd.R_types HO327.out BK337.out (by decide)) (fun _ hk => hk.2) (.slice Ao24 t333.length co24)) (fun _ h_ => h_.1))) hb)); have n2_ := Aside0.mk (Kd.S_numE hN33.out (Kd.S_old (by (with_reducible repeat (first | apply Kd.S_alloc | apply Kd.S_drewN | apply Kd.S_drew)); exact (Kd.S_mono (Kd.S_far (p := ⟨gb337, 0, none⟩) (Kd.S_types HO332.out BK337.out (by decide)) (fun _ hk => hk.2) (.slice Ao24 t333.length co24)) (fun _ h_ => h_.1))) hb)); have n3_ := Aside0.mk (Kd.R_numE hN33.out (Kd.R_old (by (with_reducible repeat (first | apply Kd.R_alloc | apply Kd.R_drewN | apply Kd.R_drew)); exact (Kd.R_mono (Kd.R_far (p := ⟨gb337, 0, none⟩) (Kd.R_types HO335.out BK337.out (by decide)) (fun _ hk => hk.2) (.slice Ao24 t333.length co24)) (fun _ h_ => h_.1))) hb)); have n4_ := Aside0.mk (blk_below (g := gb329) (o := .cells #[.slice Ao16 t325.length co16] 24 (0, 0)) (by (with_reducible repeat (first | refine blk_drewN ?_ _ | refine blk_drew ?_ | refine blk_alloc ?_ _)); refine blk_far ?_ NB329_337.out _; (with_reducible repeat (first | refine blk_drewN ?_ _ | refine blk_drew ?_ | refine blk_alloc ?_ _)); exact BK329.out) hb); have n5_ := Aside0.mk (blk_below (g := gb337) (o := .cells #[.slice Ao24 t333.length co24] 24 (0, 0)) (by (with_reducible repeat (first | refine blk_drewN ?_ _ | refine blk_drew ?_ | refine blk_alloc ?_ _)); refine blk_put (cs := #[.slice none 0 0]) ?_ 0 _ rfl; (with_reducible repeat (first | refine blk_drewN ?_ _ | refine blk_drew ?_ | refine blk_alloc ?_ _)); exact BK337.out) hb); have n6_ := Aside0.mk (below_step (by repeat (first | (with_reducible first | exact HB.out | apply below_alloc | apply pw_below_drewN | apply below_drew1 | refine below_set ?_ GE329.out | refine below_set ?_ GE337.out) | exact HB.out)) hb); clear HO324; clear HO327; clear HO332; clear HO335; clear BK329; clear BK337; clear HB; have HO324 := n0_; have HO327 := n1_; have HO332 := n2_; have HO335 := n3_; have BK329 := n4_; have BK337 := n5_; have HB := n6_; clear n0_ n1_ n2_ n3_ n4_ n5_ n6_; (try clear hb); (try clear hb2); (try clear hk); (try clear hi)))
        go_meet
        case rel => exact ⟨_, ((t336 != t328)), (by first | rfl | (simp; done) | (simp [*]; done)), H', ⟨by first | omega | exact Nat.le_refl _⟩, ⟨by (with_reducible repeat (first | apply Kd.S_alloc | apply Kd.S_drewN | apply Kd.S_drew)); exact Kd.S_mono HO332.out (fun _ hk => ⟨hk.1.1.1.2, ⟨hk.1.1.2, ⟨hk.1.1.1.1.1.2, hk.1.2⟩⟩⟩)⟩, ⟨by (with_reducible repeat (first | apply Kd.R_alloc | apply Kd.R_drewN | apply Kd.R_drew)); exact Kd.R_mono HO327.out (fun _ hk => ⟨hk.1.1.2, ⟨hk.1.1.1.1.2, ⟨hk.1.1.1.2, hk.1.2⟩⟩⟩)⟩, ⟨by (with_reducible repeat (first | apply Kd.R_alloc | apply Kd.R_drewN | apply Kd.R_drew)); exact Kd.R_mono HO335.out (fun _ hk => ⟨hk.1.2, hk.1.1.2⟩)⟩, ⟨by (with_reducible repeat (first | refine blk_drewN ?_ _ | refine blk_drew ?_ | refine blk_alloc ?_ _)); exact BK329.out⟩, ⟨by (with_reducible repeat (first | refine blk_drewN ?_ _ | refine blk_drew ?_ | refine blk_alloc ?_ _)); exact BK337.out⟩, ⟨by repeat (first | (with_reducible first | exact HB.out | apply below_alloc | apply pw_below_drewN | apply below_drew1 | refine below_set ?_ GE329.out | refine below_set ?_ GE337.out) | exact HB.out)⟩⟩
      · replace c28 := Bool.eq_false_iff.mpr c28
        subst c28
        have H1 : (laws_FnExactFromCovers.j0 k a0 l1 t328 t330 t336 true t325 t333) = some r := by rw [if_neg (show ¬ (false = true) by decide)] at H; exact H
        clear H
        have H := H1
        clear H1
        have H' := Aside0.mk H
        clear H
        have hnb34 := NB337_329.out
        have hnc34 := NB329_337.out
        have hcz35_0 : w23.cell? ⟨gb337, 0, none⟩ = some (.slice none 0 0) := (blk_cell BK337.out 0).trans rfl
        have hfz35_0 := blk_frozen BK337.out 0
        have hcz36_0 : w23.cell? ⟨gb329, 0, none⟩ = some (.slice Ao16 t325.length co16) := (blk_cell BK329.out 0).trans rfl
        have hfz36_0 := blk_frozen BK329.out 0
        go_wp2_with (first | ((with_reducible refine gate_callee (f := 9) rfl ?_); refine goesL_ (some 38) rfl rfl Try.func9 (by kernel_rfl) rfl #[.agg #[.slice Ao24 t333.length co24], .agg #[.slice Ao16 t325.length co16]] rfl (by (try simp only [List.map_toArray, List.map_cons, List.map_nil]); first | done | rfl | (simp only [List.length_drop, List.length_take]; rfl)) ?_; (with_reducible refine (laws_eqPoset.calls k _ _ t333 _ _ t325 false _ ?side1 ?side2 ?side3 ?side4 A27.out).mono ?_); (case side1 => refine (Kd.R_reads' (e := 3) (base := w.heap.size) (ok := fun k_ => ((True ∧ N22 ≤ k_) ∧ some k_ ≠ (.slice Ao16 t325.length co16 : Value).ownBlock)) (n := t333.length) (c := co24) ?_).2.2; exact (by (with_reducible repeat (first | apply Kd.R_alloc | apply Kd.R_drewN | apply Kd.R_drew)); exact (Kd.R_mono (Kd.R_far (p := ⟨gb337, 0, none⟩) (Kd.R_types HO335.out BK337.out (by decide)) (fun _ hk => hk.2) (.slice Ao24 t333.length co24)) (fun _ h_ => h_.1)))); (case side2 => exact (Kd.R_reads' HO335.out).2.1); (case side3 => refine (Kd.R_reads' (e := 3) (base := w.heap.size) (ok := fun k_ => ((((True ∧ N14 ≤ k_) ∧ k_ < N19) ∧ some k_ ≠ (.slice Ao24 t333.length co24 : Value).ownBlock) ∧ k_ < N22)) (n := t325.length) (c := co16) ?_).2.2; exact (by (with_reducible repeat (first | apply Kd.R_alloc | apply Kd.R_drewN | apply Kd.R_drew)); exact (Kd.R_mono (Kd.R_far (p := ⟨gb337, 0, none⟩) (Kd.R_types HO327.out BK337.out (by decide)) (fun _ hk => hk.2) (.slice Ao24 t333.length co24)) (fun _ h_ => h_.1)))); (case side4 => exact (Kd.R_reads' HO327.out).2.1); rintro e w37 ⟨rfl, hb⟩; refine ⟨_, rfl, ?_⟩; obtain ⟨N38, hN38⟩ := num_of hb; replace hN38 := Aside0.mk hN38; have n0_ := Aside0.mk (Kd.S_numE hN38.out (Kd.S_old (by (with_reducible repeat (first | apply Kd.S_alloc | apply Kd.S_drewN | apply Kd.S_drew)); exact (Kd.S_mono (Kd.S_far (p := ⟨gb337, 0, none⟩) (Kd.S_types HO324.out BK337.out (by decide)) (fun _ hk => hk.2) (.slice Ao24 t333.length co24)) (fun _ h_ => h_.1))) hb)); have n1_ := Aside0.mk (Kd.R_numE hN38.out (Kd.R_old (by (with_reducible repeat (first | apply Kd.R_alloc | apply Kd.R_drewN | apply Kd.R_drew)); exact (Kd.R_mono (Kd.R_far (p := ⟨gb337, 0, none⟩) (Kd.R_types HO327.out BK337.out (by decide)) (fun _ hk => hk.2) (.slice Ao24 t333.length co24)) (fun _ h_ => h_.1))) hb)); have n2_ := Aside0.mk (Kd.S_numE hN38.out (Kd.S_old (by (with_reducible repeat (first | apply Kd.S_alloc | apply Kd.S_drewN | apply Kd.S_drew)); exact (Kd.S_mono (Kd.S_far (p := ⟨gb337, 0, none⟩) (Kd.S_types HO332.out BK337.out (by decide)) (fun _ hk => hk.2) (.slice Ao24 t333.length co24)) (fun _ h_ => h_.1))) hb)); have n3_ := Aside0.mk (Kd.R_numE hN38.out (Kd.R_old (by (with_reducible repeat (first | apply Kd.R_alloc | apply Kd.R_drewN | apply Kd.R_drew)); exact (Kd.R_mono (Kd.R_far (p := ⟨gb337, 0, none⟩) (Kd.R_types HO335.out BK337.out (by decide)) (fun _ hk => hk.2) (.slice Ao24 t333.length co24)) (fun _ h_ => h_.1))) hb)); have n4_ := Aside0.mk (blk_below (g := gb329) (o := .cells #[.slice Ao16 t325.length co16] 24 (0, 0)) (by (with_reducible repeat (first | refine blk_drewN ?_ _ | refine blk_drew ?_ | refine blk_alloc ?_ _)); refine blk_far ?_ NB329_337.out _; (with_reducible repeat (first | refine blk_drewN ?_ _ | refine blk_drew ?_ | refine blk_alloc ?_ _)); exact BK329.out) hb); have n5_ := Aside0.mk (blk_below (g := gb337) (o := .cells #[.slice Ao24 t333.length co24] 24 (0, 0)) (by (with_reducible repeat (first | refine blk_drewN ?_ _ | refine blk_drew ?_ | refine blk_alloc ?_ _)); refine blk_put (cs := #[.slice none 0 0]) ?_ 0 _ rfl; (with_reducible repeat (first | refine blk_drewN ?_ _ | refine blk_drew ?_ | refine blk_alloc ?_ _)); exact BK337.out) hb); have n6_ := Aside0.mk (below_step (by repeat (first | (with_reducible first | exact HB.out | apply below_alloc | apply pw_below_drewN | apply below_drew1 | refine below_set ?_ GE329.out | refine below_set ?_ GE337.out) | exact HB.out)) hb); clear HO324; clear HO327; clear HO332; clear HO335; clear BK329; clear BK337; clear HB; have HO324 := n0_; have HO327 := n1_; have HO332 := n2_; have HO335 := n3_; have BK329 := n4_; have BK337 := n5_; have HB := n6_; clear n0_ n1_ n2_ n3_ n4_ n5_ n6_; (try clear hb); (try clear hb2); (try clear hk); (try clear hi)))
        go_meet
        case rel => exact ⟨_, (true), (by first | rfl | (simp; done) | (simp [*]; done)), H', ⟨by first | omega | exact Nat.le_refl _⟩, ⟨by (with_reducible repeat (first | apply Kd.S_alloc | apply Kd.S_drewN | apply Kd.S_drew)); exact Kd.S_mono HO332.out (fun _ hk => ⟨hk.1.1.1.2, ⟨hk.1.1.2, ⟨hk.1.1.1.1.1.2, hk.1.2⟩⟩⟩)⟩, ⟨by (with_reducible repeat (first | apply Kd.R_alloc | apply Kd.R_drewN | apply Kd.R_drew)); exact Kd.R_mono HO327.out (fun _ hk => ⟨hk.1.1.2, ⟨hk.1.1.1.1.2, ⟨hk.1.1.1.2, hk.1.2⟩⟩⟩)⟩, ⟨by (with_reducible repeat (first | apply Kd.R_alloc | apply Kd.R_drewN | apply Kd.R_drew)); exact Kd.R_mono HO335.out (fun _ hk => ⟨hk.1.2, hk.1.1.2⟩)⟩, ⟨by (with_reducible repeat (first | refine blk_drewN ?_ _ | refine blk_drew ?_ | refine blk_alloc ?_ _)); exact BK329.out⟩, ⟨by (with_reducible repeat (first | refine blk_drewN ?_ _ | refine blk_drew ?_ | refine blk_alloc ?_ _)); exact BK337.out⟩, ⟨by repeat (first | (with_reducible first | exact HB.out | apply below_alloc | apply pw_below_drewN | apply below_drew1 | refine below_set ?_ GE329.out | refine below_set ?_ GE337.out) | exact HB.out)⟩⟩
    case rest =>
      clear HC9
      try clear c1
      try clear c2
      try clear p2
      try clear c3
      try clear c4
      try clear c4b0
      try clear c5
      try clear c9
      try clear c14
      try clear c15
      try clear c16
      try clear c17
      try clear c25
      try clear c28
      try clear c29
      try clear c34
      try clear hcz17_0
      try clear hcz26_0
      try clear hcz30_0
      try clear hcz31_0
      try clear hcz35_0
      try clear hcz36_0
      try clear hfz17_0
      try clear hfz26_0
      try clear hfz30_0
      try clear hfz31_0
      try clear hfz35_0
      try clear hfz36_0
      obtain ⟨kq, x44_8, rfl, HA, HJ8, HO_8, HO_330000, HO_338000, BK329, BK337, HB⟩ := hcut
      cases kq with
      | zero => exact absurd HA.out (by simp [laws_FnExactFromCovers.j0])
      | succ kj8 =>
        have H := HA.out
        clear HA
        simp only [laws_FnExactFromCovers.j0] at H
        by_cases c39 : x44_8 = true
        · subst c39
          have H1 : (some false) = some r := by rw [if_pos rfl] at H; exact H
          clear H
          have H := H1
          clear H1
          obtain rfl := Option.some.inj H
          go_wp2
          go_ret
          exact ⟨by first | rfl | (simp [errW_none, errW_some] <;> rfl) | (simp [*, errW_none, errW_some] <;> rfl), by repeat (first | (with_reducible first | exact HB.out | apply below_alloc | apply pw_below_drewN | apply below_drew1 | refine below_set ?_ GE329.out | refine below_set ?_ GE337.out) | exact HB.out)⟩
        · replace c39 := Bool.eq_false_iff.mpr c39
          subst c39
          have H1 : ((laws_toIntSS.f kj8 l1).bind fun t339 => ((laws_eqIntSS.f kj8 t330 t339).bind fun t342 => (if t342 = true then ((laws_markIntSS.f kj8 t330 1).bind fun bt343 => (if bt343.1 < 0 then (laws_FnExactFromCovers.j1 kj8 a0 l1 t328 true t325 t333) else ((laws_eqPoset.f kj8 t333 t325).bind fun t345 => (if t345 = true then (laws_FnExactFromCovers.j1 kj8 a0 l1 t328 (t336 != t328) t325 t333) else (laws_FnExactFromCovers.j1 kj8 a0 l1 t328 true t325 t333))))) else (some false)))) = some r := by rw [if_neg (show ¬ (false = true) by decide)] at H; exact H
          clear H
          have H := H1
          clear H1
          replace H := Option.bind_eq_some_iff.mp H
          obtain ⟨t339, A400, H⟩ := H
          replace H : ((laws_eqIntSS.f kj8 t330 t339).bind fun t342 => (if t342 = true then ((laws_markIntSS.f kj8 t330 1).bind fun bt343 => (if bt343.1 < 0 then (laws_FnExactFromCovers.j1 kj8 a0 l1 t328 true t325 t333) else ((laws_eqPoset.f kj8 t333 t325).bind fun t345 => (if t345 = true then (laws_FnExactFromCovers.j1 kj8 a0 l1 t328 (t336 != t328) t325 t333) else (laws_FnExactFromCovers.j1 kj8 a0 l1 t328 true t325 t333))))) else (some false))) = some r := H
          have A40 := Aside0.mk A400
          clear A400
          replace H := Option.bind_eq_some_iff.mp H
          obtain ⟨t342, A410, H⟩ := H
          replace H : (if t342 = true then ((laws_markIntSS.f kj8 t330 1).bind fun bt343 => (if bt343.1 < 0 then (laws_FnExactFromCovers.j1 kj8 a0 l1 t328 true t325 t333) else ((laws_eqPoset.f kj8 t333 t325).bind fun t345 => (if t345 = true then (laws_FnExactFromCovers.j1 kj8 a0 l1 t328 (t336 != t328) t325 t333) else (laws_FnExactFromCovers.j1 kj8 a0 l1 t328 true t325 t333))))) else (some false)) = some r := H
          have A41 := Aside0.mk A410
          clear A410
          by_cases c42 : t342 = true
          · subst c42
            have H1 : ((laws_markIntSS.f kj8 t330 1).bind fun bt343 => (if bt343.1 < 0 then (laws_FnExactFromCovers.j1 kj8 a0 l1 t328 true t325 t333) else ((laws_eqPoset.f kj8 t333 t325).bind fun t345 => (if t345 = true then (laws_FnExactFromCovers.j1 kj8 a0 l1 t328 (t336 != t328) t325 t333) else (laws_FnExactFromCovers.j1 kj8 a0 l1 t328 true t325 t333))))) = some r := by rw [if_pos rfl] at H; exact H
            clear H
            have H := H1
            clear H1
            replace H := Option.bind_eq_some_iff.mp H
            obtain ⟨⟨t343, t344⟩, A430, H⟩ := H
            replace H : (if t343 < 0 then (laws_FnExactFromCovers.j1 kj8 a0 l1 t328 true t325 t333) else ((laws_eqPoset.f kj8 t333 t325).bind fun t345 => (if t345 = true then (laws_FnExactFromCovers.j1 kj8 a0 l1 t328 (t336 != t328) t325 t333) else (laws_FnExactFromCovers.j1 kj8 a0 l1 t328 true t325 t333)))) = some r := H
            have A43 := Aside0.mk A430
            clear A430
            have HC44 := Aside0.mk H
            clear H
            go_upto_region 14 with (first | ((with_reducible refine gate_callee (f := 16) rfl ?_); refine goesL_ (some 47) rfl rfl Try.func16 (by kernel_rfl) rfl #[.slice A1 l1.length c1] rfl (by (try simp only [List.map_toArray, List.map_cons, List.map_nil]); first | done | rfl | (simp only [List.length_drop, List.length_take]; rfl)) ?_; (with_reducible refine (laws_toIntSS.calls kj8 _ _ l1 t339 _ ?side1 ?side2 A40.out).mono ?_); (case side1 => repeat (first | exact (Kd.C_below HR1.out HB.out) | (with_reducible refine Kd.C_alloc ?_ _) | (with_reducible refine Kd.C_drewN ?_ _) | (with_reducible refine Kd.C_drew ?_))); (case side2 => exact HC1.out); rintro e w45 ⟨v340, rfl, ho0, hb⟩; refine ⟨_, rfl, ?_⟩; obtain ⟨N46, hN46⟩ := num_of hb; replace hN46 := Aside0.mk hN46; have n0_ := Aside0.mk (Kd.S_numE hN46.out (Kd.S_told (Kd.S_old (by (with_reducible repeat (first | apply Kd.S_alloc | apply Kd.S_drewN | apply Kd.S_drew)); exact HO_8.out) hb) (Kd.S_base ho0))); have n1_ := Aside0.mk (Kd.R_numE hN46.out (Kd.R_old (by (with_reducible repeat (first | apply Kd.R_alloc | apply Kd.R_drewN | apply Kd.R_drew)); exact HO_330000.out) hb)); have n2_ := Aside0.mk (Kd.R_numE hN46.out (Kd.R_old (by (with_reducible repeat (first | apply Kd.R_alloc | apply Kd.R_drewN | apply Kd.R_drew)); exact HO_338000.out) hb)); have n3_ := Aside0.mk (Kd.S_lower (Kd.S_new' (Kd.S_new' (Kd.S_new' (Kd.S_numN hN46.out ho0) (Kd.S_lt (by (with_reducible repeat (first | apply Kd.S_alloc | apply Kd.S_drewN | apply Kd.S_drew)); exact HO_8.out))) (Kd.R_lt (by (with_reducible repeat (first | apply Kd.R_alloc | apply Kd.R_drewN | apply Kd.R_drew)); exact HO_330000.out))) (Kd.R_lt (by (with_reducible repeat (first | apply Kd.R_alloc | apply Kd.R_drewN | apply Kd.R_drew)); exact HO_338000.out))) (below_size (by repeat (first | (with_reducible first | exact HB.out | apply below_alloc | apply pw_below_drewN | apply below_drew1 | refine below_set ?_ GE329.out | refine below_set ?_ GE337.out) | exact HB.out)))); have n4_ := Aside0.mk (blk_below (g := gb329) (o := .cells #[.slice Ao16 t325.length co16] 24 (0, 0)) (by (with_reducible repeat (first | refine blk_drewN ?_ _ | refine blk_drew ?_ | refine blk_alloc ?_ _)); exact BK329.out) hb); have n5_ := Aside0.mk (blk_below (g := gb337) (o := .cells #[.slice Ao24 t333.length co24] 24 (0, 0)) (by (with_reducible repeat (first | refine blk_drewN ?_ _ | refine blk_drew ?_ | refine blk_alloc ?_ _)); exact BK337.out) hb); have n6_ := Aside0.mk (below_step (by repeat (first | (with_reducible first | exact HB.out | apply below_alloc | apply pw_below_drewN | apply below_drew1 | refine below_set ?_ GE329.out | refine below_set ?_ GE337.out) | exact HB.out)) hb); clear HO_8; clear HO_330000; clear HO_338000; clear BK329; clear BK337; clear HB; have HO_8 := n0_; have HO_330000 := n1_; have HO_338000 := n2_; have HO341 := n3_; have BK329 := n4_; have BK337 := n5_; have HB := n6_; clear n0_ n1_ n2_ n3_ n4_ n5_ n6_; (try clear hb); (try clear hb2); (try clear hk); (try clear hi); (try clear ho0); obtain ⟨Ao47, co47, eo47⟩ := Kd.S_slice HO341.out; subst eo47) | ((with_reducible refine gate_callee (f := 18) rfl ?_); refine goesL_ (some 48) rfl rfl Try.func18 (by kernel_rfl) rfl #[.slice Ao20 t330.length co20, .slice Ao47 t339.length co47] rfl (by (try simp only [List.map_toArray, List.map_cons, List.map_nil]); first | done | rfl | (simp only [List.length_drop, List.length_take]; rfl)) ?_; (with_reducible refine (laws_eqIntSS.calls kj8 _ _ t330 _ _ t339 true _ ?side1 ?side2 ?side3 ?side4 A41.out).mono ?_); (case side1 => repeat (first | exact (Kd.S_reads' HO_8.out).2.2 | (with_reducible refine Kd.C_alloc ?_ _) | (with_reducible refine Kd.C_drewN ?_ _) | (with_reducible refine Kd.C_drew ?_))); (case side2 => exact (Kd.S_reads' HO_8.out).2.1); (case side3 => repeat (first | exact (Kd.S_reads' HO341.out).2.2 | (with_reducible refine Kd.C_alloc ?_ _) | (with_reducible refine Kd.C_drewN ?_ _) | (with_reducible refine Kd.C_drew ?_))); (case side4 => exact (Kd.S_reads' HO341.out).2.1); rintro e w' ⟨rfl, ⟨nd, rfl⟩⟩; refine ⟨_, rfl, ?_⟩) | ((with_reducible refine gate_callee (f := 19) rfl ?_); refine goesL_ (some 52) rfl rfl Try.func19 (by kernel_rfl) rfl #[.slice Ao20 t330.length co20, .int .i64 1] rfl (by (try simp only [List.map_toArray, List.map_cons, List.map_nil]); first | done | rfl | (simp only [List.length_drop, List.length_take]; rfl)) ?_; (with_reducible refine (laws_markIntSS.calls kj8 (fun k_ => (((some k_ ≠ (.slice Ao16 t325.length co16 : Value).ownBlock ∧ (some k_ ≠ (.slice Ao24 t333.length co24 : Value).ownBlock ∧ (N19 ≤ k_ ∧ k_ < N22))) ∧ some k_ ≠ (.slice Ao47 t339.length co47 : Value).ownBlock) ∧ k_ < N46)) (.slice Ao20 t330.length co20) t330 1 t343 t344 w _ ?side1 ?side2 A43.out).mono ?_); (case side1 => repeat (first | (with_reducible first | exact HB.out | apply below_alloc | apply pw_below_drewN | apply below_drew1 | refine below_set ?_ GE329.out | refine below_set ?_ GE337.out) | exact HB.out)); (case side2 => (with_reducible repeat (first | apply Kd.S_alloc | apply Kd.S_drewN | apply Kd.S_drew)); exact HO_8.out); rintro e w48 ⟨rfl, hy0, hb, hkp⟩; refine ⟨_, rfl, ?_⟩; have n0_ := Aside0.mk (hy0); have n1_ := Aside0.mk (Kd.R_mono (ok' := fun k_ => some k_ ≠ (.slice Ao24 t333.length co24 : Value).ownBlock ∧ N14 ≤ k_ ∧ k_ < N19 ∧ k_ < N22 ∧ k_ < N46) (Kd.R_keptB (HO_330000.out) hkp (fun k_ hk_ hs_ => (fun hP_ => Nat.not_le.2 (hk_.1.2.2.1) (hP_.1.1.1.2.2.1)) hs_)) (fun k_ hk_ => ⟨hk_.1.1.1, hk_.1.1.2.1, hk_.1.1.2.2.1, hk_.1.1.2.2.2, hk_.1.2⟩)); have n2_ := Aside0.mk (Kd.R_mono (ok' := fun k_ => some k_ ≠ (.slice Ao16 t325.length co16 : Value).ownBlock ∧ N22 ≤ k_ ∧ k_ < N46) (Kd.R_keptB (HO_338000.out) hkp (fun k_ hk_ hs_ => (fun hP_ => Nat.not_le.2 (hP_.1.1.1.2.2.2) (hk_.1.2)) hs_)) (fun k_ hk_ => ⟨hk_.1.1.1, hk_.1.1.2, hk_.1.2⟩)); have n3_ := Aside0.mk (blk_kept (by (with_reducible repeat (first | refine blk_drewN ?_ _ | refine blk_drew ?_ | refine blk_alloc ?_ _)); exact BK329.out) hkp (fun hs_ => (fun e_ => typed_no (cs := #[.slice Ao16 t325.length co16]) (t := 24) (by (with_reducible repeat (first | refine blk_drewN ?_ _ | refine blk_drew ?_ | refine blk_alloc ?_ _)); exact BK329.out) e_.2.2 (by decide)) hs_)); have n4_ := Aside0.mk (blk_kept (by (with_reducible repeat (first | refine blk_drewN ?_ _ | refine blk_drew ?_ | refine blk_alloc ?_ _)); exact BK337.out) hkp (fun hs_ => (fun e_ => typed_no (cs := #[.slice Ao24 t333.length co24]) (t := 24) (by (with_reducible repeat (first | refine blk_drewN ?_ _ | refine blk_drew ?_ | refine blk_alloc ?_ _)); exact BK337.out) e_.2.2 (by decide)) hs_)); have n5_ := Aside0.mk (Kd.S_mono (ok' := fun k_ => some k_ ≠ (.slice Ao20 t330.length co20 : Value).ownBlock ∧ some k_ ≠ (.slice Ao16 t325.length co16 : Value).ownBlock ∧ some k_ ≠ (.slice Ao24 t333.length co24 : Value).ownBlock ∧ N46 ≤ k_) (Kd.S_keptB (HO341.out) hkp (fun k_ hk_ hs_ => (fun hP_ => Nat.not_le.2 (hP_.1.2) (hk_.1.1.1.2)) hs_)) (fun k_ hk_ => ⟨hk_.1.1.1.2, hk_.1.1.2, hk_.1.2, hk_.1.1.1.1.2⟩)); have n6_ := Aside0.mk (hb); clear HO_8; clear HO_330000; clear HO_338000; clear BK329; clear BK337; clear HO341; clear HB; have HO_8 := n0_; have HO_330000 := n1_; have HO_338000 := n2_; have BK329 := n3_; have BK337 := n4_; have HO341 := n5_; have HB := n6_; clear n0_ n1_ n2_ n3_ n4_ n5_ n6_; (try clear hb); (try clear hkp); (try clear hy0)))
            (try simp only [Act.put, List.setIfInBounds_toArray, List.set_cons_zero, List.set_cons_succ])
            go_cut [65] (fun v65 wc => ∃ (kq : Nat) (x65_43 : Bool), v65 = .bool x65_43 ∧ Aside0 (laws_FnExactFromCovers.j1 kq a0 l1 t328 x65_43 t325 t333 = some r) ∧ Aside0 (kq ≤ kj8) ∧ Aside0 (Kd.R (Kd.int .i64) 3 wc w.heap.size (fun k_ => some k_ ≠ ((.slice Ao24 t333.length co24) : Value).ownBlock ∧ N14 ≤ k_ ∧ k_ < N19 ∧ k_ < N22 ∧ k_ < N46) (.slice Ao16 t325.length co16) t325) ∧ Aside0 (Kd.R (Kd.int .i64) 3 wc w.heap.size (fun k_ => some k_ ≠ ((.slice Ao16 t325.length co16) : Value).ownBlock ∧ N22 ≤ k_ ∧ k_ < N46) (.slice Ao24 t333.length co24) t333) ∧ Aside0 (wc.heap[gb329]? = some (.cells #[(.slice Ao16 t325.length co16)] 24 (0, 0))) ∧ Aside0 (wc.heap[gb337]? = some (.cells #[(.slice Ao24 t333.length co24)] 24 (0, 0))) ∧ Aside0 (Below w.heap.size w wc))
            case first =>
              have H := HC44.out
              clear HC44
              by_cases c49 : t343 < 0
              · rw [if_pos c49] at H
                have c49b0 : decide (t343 < 0) = true := decide_eq_true c49
                clear c49
                (first | rw [c49b0] | (simp only [i64_w, i32_w]; rw [c49b0]) | skip)
                have H' := Aside0.mk H
                clear H
                go_wp2
                go_meet
                case rel => exact ⟨_, (true), (by first | rfl | (simp; done) | (simp [*]; done)), H', ⟨by have := HJ8.out; first | omega | exact Nat.le_refl _⟩, ⟨by (with_reducible repeat (first | apply Kd.R_alloc | apply Kd.R_drewN | apply Kd.R_drew)); exact HO_330000.out⟩, ⟨by (with_reducible repeat (first | apply Kd.R_alloc | apply Kd.R_drewN | apply Kd.R_drew)); exact HO_338000.out⟩, ⟨by (with_reducible repeat (first | refine blk_drewN ?_ _ | refine blk_drew ?_ | refine blk_alloc ?_ _)); exact BK329.out⟩, ⟨by (with_reducible repeat (first | refine blk_drewN ?_ _ | refine blk_drew ?_ | refine blk_alloc ?_ _)); exact BK337.out⟩, ⟨by repeat (first | (with_reducible first | exact HB.out | apply below_alloc | apply pw_below_drewN | apply below_drew1 | refine below_set ?_ GE329.out | refine below_set ?_ GE337.out) | exact HB.out)⟩⟩
              · rw [if_neg c49] at H
                have c49b0 : decide (t343 < 0) = false := decide_eq_false c49
                clear c49
                (first | rw [c49b0] | (simp only [i64_w, i32_w]; rw [c49b0]) | skip)
                replace H := Option.bind_eq_some_iff.mp H
                obtain ⟨t345, A500, H⟩ := H
                replace H : (if t345 = true then (laws_FnExactFromCovers.j1 kj8 a0 l1 t328 (t336 != t328) t325 t333) else (laws_FnExactFromCovers.j1 kj8 a0 l1 t328 true t325 t333)) = some r := H
                have A50 := Aside0.mk A500
                clear A500
                by_cases c51 : t345 = true
                · subst c51
                  have H1 : (laws_FnExactFromCovers.j1 kj8 a0 l1 t328 (t336 != t328) t325 t333) = some r := by rw [if_pos rfl] at H; exact H
                  clear H
                  have H := H1
                  clear H1
                  have H' := Aside0.mk H
                  clear H
                  have hnb52 := NB337_329.out
                  have hnc52 := NB329_337.out
                  have hcz53_0 : w48.cell? ⟨gb337, 0, none⟩ = some (.slice Ao24 t333.length co24) := (blk_cell BK337.out 0).trans rfl
                  have hfz53_0 := blk_frozen BK337.out 0
                  have hcz54_0 : w48.cell? ⟨gb329, 0, none⟩ = some (.slice Ao16 t325.length co16) := (blk_cell BK329.out 0).trans rfl
                  have hfz54_0 := blk_frozen BK329.out 0
                  go_wp2_with (first | (go_at_call 9; (with_reducible refine (laws_eqPoset.calls kj8 _ _ t333 _ _ t325 true _ ?side1 ?side2 ?side3 ?side4 A50.out).mono ?_); (case side1 => repeat (first | exact (Kd.R_reads' HO_338000.out).2.2 | (with_reducible refine Kd.C_alloc ?_ _) | (with_reducible refine Kd.C_drewN ?_ _) | (with_reducible refine Kd.C_drew ?_))); (case side2 => exact (Kd.R_reads' HO_338000.out).2.1); (case side3 => repeat (first | exact (Kd.R_reads' HO_330000.out).2.2 | (with_reducible refine Kd.C_alloc ?_ _) | (with_reducible refine Kd.C_drewN ?_ _) | (with_reducible refine Kd.C_drew ?_))); (case side4 => exact (Kd.R_reads' HO_330000.out).2.1); rintro e w55 ⟨rfl, hb⟩; obtain ⟨N56, hN56⟩ := num_of hb; replace hN56 := Aside0.mk hN56; have n0_ := Aside0.mk (Kd.S_numE hN56.out (Kd.S_old (by (with_reducible repeat (first | apply Kd.S_alloc | apply Kd.S_drewN | apply Kd.S_drew)); exact HO_8.out) hb)); have n1_ := Aside0.mk (Kd.R_numE hN56.out (Kd.R_old (by (with_reducible repeat (first | apply Kd.R_alloc | apply Kd.R_drewN | apply Kd.R_drew)); exact HO_330000.out) hb)); have n2_ := Aside0.mk (Kd.R_numE hN56.out (Kd.R_old (by (with_reducible repeat (first | apply Kd.R_alloc | apply Kd.R_drewN | apply Kd.R_drew)); exact HO_338000.out) hb)); have n3_ := Aside0.mk (Kd.S_numE hN56.out (Kd.S_old (by (with_reducible repeat (first | apply Kd.S_alloc | apply Kd.S_drewN | apply Kd.S_drew)); exact HO341.out) hb)); have n4_ := Aside0.mk (blk_below (g := gb329) (o := .cells #[.slice Ao16 t325.length co16] 24 (0, 0)) (by (with_reducible repeat (first | refine blk_drewN ?_ _ | refine blk_drew ?_ | refine blk_alloc ?_ _)); exact BK329.out) hb); have n5_ := Aside0.mk (blk_below (g := gb337) (o := .cells #[.slice Ao24 t333.length co24] 24 (0, 0)) (by (with_reducible repeat (first | refine blk_drewN ?_ _ | refine blk_drew ?_ | refine blk_alloc ?_ _)); exact BK337.out) hb); have n6_ := Aside0.mk (below_step (by repeat (first | (with_reducible first | exact HB.out | apply below_alloc | apply pw_below_drewN | apply below_drew1 | refine below_set ?_ GE329.out | refine below_set ?_ GE337.out) | exact HB.out)) hb); clear HO_8; clear HO_330000; clear HO_338000; clear HO341; clear BK329; clear BK337; clear HB; have HO_8 := n0_; have HO_330000 := n1_; have HO_338000 := n2_; have HO341 := n3_; have BK329 := n4_; have BK337 := n5_; have HB := n6_; clear n0_ n1_ n2_ n3_ n4_ n5_ n6_; (try clear hb); (try clear hb2); (try clear hk); (try clear hi)))
                  go_meet
                  case rel => exact ⟨_, ((t336 != t328)), (by first | rfl | (simp; done) | (simp [*]; done)), H', ⟨by have := HJ8.out; first | omega | exact Nat.le_refl _⟩, ⟨by (with_reducible repeat (first | apply Kd.R_alloc | apply Kd.R_drewN | apply Kd.R_drew)); exact Kd.R_mono HO_330000.out (fun _ hk => ⟨hk.1.1, ⟨hk.1.2.1, ⟨hk.1.2.2.1, ⟨hk.1.2.2.2.1, hk.1.2.2.2.2⟩⟩⟩⟩)⟩, ⟨by (with_reducible repeat (first | apply Kd.R_alloc | apply Kd.R_drewN | apply Kd.R_drew)); exact Kd.R_mono HO_338000.out (fun _ hk => ⟨hk.1.1, ⟨hk.1.2.1, hk.1.2.2⟩⟩)⟩, ⟨by (with_reducible repeat (first | refine blk_drewN ?_ _ | refine blk_drew ?_ | refine blk_alloc ?_ _)); exact BK329.out⟩, ⟨by (with_reducible repeat (first | refine blk_drewN ?_ _ | refine blk_drew ?_ | refine blk_alloc ?_ _)); exact BK337.out⟩, ⟨by repeat (first | (with_reducible first | exact HB.out | apply below_alloc | apply pw_below_drewN | apply below_drew1 | refine below_set ?_ GE329.out | refine below_set ?_ GE337.out) | exact HB.out)⟩⟩
                · replace c51 := Bool.eq_false_iff.mpr c51
                  subst c51
                  have H1 : (laws_FnExactFromCovers.j1 kj8 a0 l1 t328 true t325 t333) = some r := by rw [if_neg (show ¬ (false = true) by decide)] at H; exact H
                  clear H
                  have H := H1
                  clear H1
                  have H' := Aside0.mk H
                  clear H
                  have hnb57 := NB337_329.out
                  have hnc57 := NB329_337.out
                  have hcz58_0 : w48.cell? ⟨gb337, 0, none⟩ = some (.slice Ao24 t333.length co24) := (blk_cell BK337.out 0).trans rfl
                  have hfz58_0 := blk_frozen BK337.out 0
                  have hcz59_0 : w48.cell? ⟨gb329, 0, none⟩ = some (.slice Ao16 t325.length co16) := (blk_cell BK329.out 0).trans rfl
                  have hfz59_0 := blk_frozen BK329.out 0
                  go_wp2_with (first | (go_at_call 9; (with_reducible refine (laws_eqPoset.calls kj8 _ _ t333 _ _ t325 false _ ?side1 ?side2 ?side3 ?side4 A50.out).mono ?_); (case side1 => repeat (first | exact (Kd.R_reads' HO_338000.out).2.2 | (with_reducible refine Kd.C_alloc ?_ _) | (with_reducible refine Kd.C_drewN ?_ _) | (with_reducible refine Kd.C_drew ?_))); (case side2 => exact (Kd.R_reads' HO_338000.out).2.1); (case side3 => repeat (first | exact (Kd.R_reads' HO_330000.out).2.2 | (with_reducible refine Kd.C_alloc ?_ _) | (with_reducible refine Kd.C_drewN ?_ _) | (with_reducible refine Kd.C_drew ?_))); (case side4 => exact (Kd.R_reads' HO_330000.out).2.1); rintro e w60 ⟨rfl, hb⟩; obtain ⟨N61, hN61⟩ := num_of hb; replace hN61 := Aside0.mk hN61; have n0_ := Aside0.mk (Kd.S_numE hN61.out (Kd.S_old (by (with_reducible repeat (first | apply Kd.S_alloc | apply Kd.S_drewN | apply Kd.S_drew)); exact HO_8.out) hb)); have n1_ := Aside0.mk (Kd.R_numE hN61.out (Kd.R_old (by (with_reducible repeat (first | apply Kd.R_alloc | apply Kd.R_drewN | apply Kd.R_drew)); exact HO_330000.out) hb)); have n2_ := Aside0.mk (Kd.R_numE hN61.out (Kd.R_old (by (with_reducible repeat (first | apply Kd.R_alloc | apply Kd.R_drewN | apply Kd.R_drew)); exact HO_338000.out) hb)); have n3_ := Aside0.mk (Kd.S_numE hN61.out (Kd.S_old (by (with_reducible repeat (first | apply Kd.S_alloc | apply Kd.S_drewN | apply Kd.S_drew)); exact HO341.out) hb)); have n4_ := Aside0.mk (blk_below (g := gb329) (o := .cells #[.slice Ao16 t325.length co16] 24 (0, 0)) (by (with_reducible repeat (first | refine blk_drewN ?_ _ | refine blk_drew ?_ | refine blk_alloc ?_ _)); exact BK329.out) hb); have n5_ := Aside0.mk (blk_below (g := gb337) (o := .cells #[.slice Ao24 t333.length co24] 24 (0, 0)) (by (with_reducible repeat (first | refine blk_drewN ?_ _ | refine blk_drew ?_ | refine blk_alloc ?_ _)); exact BK337.out) hb); have n6_ := Aside0.mk (below_step (by repeat (first | (with_reducible first | exact HB.out | apply below_alloc | apply pw_below_drewN | apply below_drew1 | refine below_set ?_ GE329.out | refine below_set ?_ GE337.out) | exact HB.out)) hb); clear HO_8; clear HO_330000; clear HO_338000; clear HO341; clear BK329; clear BK337; clear HB; have HO_8 := n0_; have HO_330000 := n1_; have HO_338000 := n2_; have HO341 := n3_; have BK329 := n4_; have BK337 := n5_; have HB := n6_; clear n0_ n1_ n2_ n3_ n4_ n5_ n6_; (try clear hb); (try clear hb2); (try clear hk); (try clear hi)))
                  go_meet
                  case rel => exact ⟨_, (true), (by first | rfl | (simp; done) | (simp [*]; done)), H', ⟨by have := HJ8.out; first | omega | exact Nat.le_refl _⟩, ⟨by (with_reducible repeat (first | apply Kd.R_alloc | apply Kd.R_drewN | apply Kd.R_drew)); exact Kd.R_mono HO_330000.out (fun _ hk => ⟨hk.1.1, ⟨hk.1.2.1, ⟨hk.1.2.2.1, ⟨hk.1.2.2.2.1, hk.1.2.2.2.2⟩⟩⟩⟩)⟩, ⟨by (with_reducible repeat (first | apply Kd.R_alloc | apply Kd.R_drewN | apply Kd.R_drew)); exact Kd.R_mono HO_338000.out (fun _ hk => ⟨hk.1.1, ⟨hk.1.2.1, hk.1.2.2⟩⟩)⟩, ⟨by (with_reducible repeat (first | refine blk_drewN ?_ _ | refine blk_drew ?_ | refine blk_alloc ?_ _)); exact BK329.out⟩, ⟨by (with_reducible repeat (first | refine blk_drewN ?_ _ | refine blk_drew ?_ | refine blk_alloc ?_ _)); exact BK337.out⟩, ⟨by repeat (first | (with_reducible first | exact HB.out | apply below_alloc | apply pw_below_drewN | apply below_drew1 | refine below_set ?_ GE329.out | refine below_set ?_ GE337.out) | exact HB.out)⟩⟩
            case rest =>
              clear HC44
              try clear c1
              try clear c2
              try clear p2
              try clear c3
              try clear c4
              try clear c4b0
              try clear c5
              try clear c9
              try clear c14
              try clear c15
              try clear c16
              try clear c17
              try clear c18
              try clear c19
              try clear c25
              try clear c28
              try clear c29
              try clear c34
              try clear c39
              try clear c42
              try clear c49
              try clear c49b0
              try clear c51
              try clear c52
              try clear c57
              try clear hcz17_0
              try clear hcz26_0
              try clear hcz30_0
              try clear hcz31_0
              try clear hcz35_0
              try clear hcz36_0
              try clear hcz53_0
              try clear hcz54_0
              try clear hcz58_0
              try clear hcz59_0
              try clear hfz17_0
              try clear hfz26_0
              try clear hfz30_0
              try clear hfz31_0
              try clear hfz35_0
              try clear hfz36_0
              try clear hfz53_0
              try clear hfz54_0
              try clear hfz58_0
              try clear hfz59_0
              try clear p2
              obtain ⟨kq, x65_43, rfl, HA, HJ43, HO_330000, HO_338000, BK329, BK337, HB⟩ := hcut
              cases kq with
              | zero => exact absurd HA.out (by simp [laws_FnExactFromCovers.j1])
              | succ kj43 =>
                have H := HA.out
                clear HA
                simp only [laws_FnExactFromCovers.j1] at H
                by_cases c62 : x65_43 = true
                · subst c62
                  have H1 : (some false) = some r := by rw [if_pos rfl] at H; exact H
                  clear H
                  have H := H1
                  clear H1
                  obtain rfl := Option.some.inj H
                  go_wp2
                  go_ret
                  exact ⟨by first | rfl | (simp [errW_none, errW_some] <;> rfl) | (simp [*, errW_none, errW_some] <;> rfl), by repeat (first | (with_reducible first | exact HB.out | apply below_alloc | apply pw_below_drewN | apply below_drew1 | refine below_set ?_ GE329.out | refine below_set ?_ GE337.out) | exact HB.out)⟩
                · replace c62 := Bool.eq_false_iff.mpr c62
                  subst c62
                  have H1 : ((laws_markPoset.f kj43 t333 1).bind fun bt346 => ((laws_heldPoset.f kj43 bt346.2 1).bind fun t348 => (if t348 < 0 then (some false) else (if t348 = bt346.1 then ((laws_toIntSS.f kj43 l1).bind fun t349 => ((impl_FromCovers.f kj43 a0 t349).bind fun bt352 => ((laws_eqPoset.f kj43 bt352.1 t325).bind fun t357 => (if t357 = true then (laws_FnExactFromCovers.j2 kj43 bt346.1 (bt352.2 != t328) bt346.2) else (laws_FnExactFromCovers.j2 kj43 bt346.1 true bt346.2))))) else (some false))))) = some r := by rw [if_neg (show ¬ (false = true) by decide)] at H; exact H
                  clear H
                  have H := H1
                  clear H1
                  replace H := Option.bind_eq_some_iff.mp H
                  obtain ⟨⟨t346, t347⟩, A630, H⟩ := H
                  replace H : ((laws_heldPoset.f kj43 t347 1).bind fun t348 => (if t348 < 0 then (some false) else (if t348 = t346 then ((laws_toIntSS.f kj43 l1).bind fun t349 => ((impl_FromCovers.f kj43 a0 t349).bind fun bt352 => ((laws_eqPoset.f kj43 bt352.1 t325).bind fun t357 => (if t357 = true then (laws_FnExactFromCovers.j2 kj43 t346 (bt352.2 != t328) t347) else (laws_FnExactFromCovers.j2 kj43 t346 true t347))))) else (some false)))) = some r := H
                  have A63 := Aside0.mk A630
                  clear A630
                  replace H := Option.bind_eq_some_iff.mp H
                  obtain ⟨t348, A640, H⟩ := H
                  replace H : (if t348 < 0 then (some false) else (if t348 = t346 then ((laws_toIntSS.f kj43 l1).bind fun t349 => ((impl_FromCovers.f kj43 a0 t349).bind fun bt352 => ((laws_eqPoset.f kj43 bt352.1 t325).bind fun t357 => (if t357 = true then (laws_FnExactFromCovers.j2 kj43 t346 (bt352.2 != t328) t347) else (laws_FnExactFromCovers.j2 kj43 t346 true t347))))) else (some false))) = some r := H
                  have A64 := Aside0.mk A640
                  clear A640
                  by_cases c65 : t348 < 0
                  · rw [if_pos c65] at H
                    have c65b0 : decide (t348 < 0) = true := decide_eq_true c65
                    clear c65
                    obtain rfl := Option.some.inj H
                    have hnb66 := NB337_329.out
                    have hnc66 := NB329_337.out
                    have hcz67_0 : wc.cell? ⟨gb337, 0, none⟩ = some (.slice Ao24 t333.length co24) := (blk_cell BK337.out 0).trans rfl
                    have hfz67_0 := blk_frozen BK337.out 0
                    go_wp2_with (first | ((with_reducible refine gate_callee (f := 10) rfl ?_); refine goesL_ (some 68) rfl rfl Try.func10 (by kernel_rfl) rfl #[.agg #[.slice Ao24 t333.length co24], .int .i64 1] rfl (by (try simp only [List.map_toArray, List.map_cons, List.map_nil]); first | done | rfl | (simp only [List.length_drop, List.length_take]; rfl)) ?_; (with_reducible refine (laws_markPoset.calls kj43 (fun k_ => some k_ = (.slice Ao24 t333.length co24 : Value).ownBlock) (.slice Ao24 t333.length co24) t333 1 t346 t347 w _ ?side1 ?side2 A63.out).mono ?_); (case side1 => repeat (first | (with_reducible first | exact HB.out | apply below_alloc | apply pw_below_drewN | apply below_drew1 | refine below_set ?_ GE329.out | refine below_set ?_ GE337.out) | exact HB.out)); (case side2 => exact Kd.R_tight rfl HO_338000.out); rintro e w68 ⟨rfl, hy0, hb, hkp⟩; refine ⟨_, rfl, ?_⟩; have n0_ := Aside0.mk (Kd.R_mono (ok' := fun k_ => some k_ ≠ (.slice Ao24 t333.length co24 : Value).ownBlock ∧ N14 ≤ k_ ∧ k_ < N19 ∧ k_ < N22 ∧ k_ < N46) (Kd.R_keptB (HO_330000.out) hkp (fun k_ hk_ hs_ => (hk_.1) hs_)) (fun k_ hk_ => ⟨hk_.1.1, hk_.1.2.1, hk_.1.2.2.1, hk_.1.2.2.2.1, hk_.1.2.2.2.2⟩)); have n1_ := Aside0.mk (Kd.R_reok rfl hy0 (fun k_ e_ => HO_338000.out.1 k_ e_)); have n2_ := Aside0.mk (blk_kept (by (with_reducible repeat (first | refine blk_drewN ?_ _ | refine blk_drew ?_ | refine blk_alloc ?_ _)); exact BK329.out) hkp (fun hs_ => (fun e_ => (Kd.R_ne HO_338000.out BK329.out (by decide)) e_) hs_)); have n3_ := Aside0.mk (blk_kept (by (with_reducible repeat (first | refine blk_drewN ?_ _ | refine blk_drew ?_ | refine blk_alloc ?_ _)); exact BK337.out) hkp (fun hs_ => (fun e_ => (Kd.R_ne HO_338000.out BK337.out (by decide)) e_) hs_)); have n4_ := Aside0.mk (hb); clear HO_330000; clear HO_338000; clear BK329; clear BK337; clear HB; have HO_330000 := n0_; have HO_338000 := n1_; have BK329 := n2_; have BK337 := n3_; have HB := n4_; clear n0_ n1_ n2_ n3_ n4_; (try clear hb); (try clear hkp); (try clear hy0); have hcz69_0 : w68.cell? ⟨gb337, 0, none⟩ = some (.slice Ao24 t333.length co24) := (blk_cell BK337.out 0).trans rfl; have hfz69_0 := blk_frozen BK337.out 0) | ((with_reducible refine gate_callee (f := 11) rfl ?_); refine goesL_ (some 71) rfl rfl Try.func11 (by kernel_rfl) rfl #[.agg #[.slice Ao24 t347.length co24], .int .i64 1] rfl (by (try simp only [List.map_toArray, List.map_cons, List.map_nil]); first | done | (rw [show t347.length = t333.length from (Kd.R_reads' HO_338000.out).1.symm] <;> rfl) | rfl | (simp only [List.length_drop, List.length_take]; rfl)) ?_; (with_reducible refine (laws_heldPoset.calls kj43 _ _ t347 1 t348 _ ?side1 ?side2 A64.out).mono ?_); (case side1 => repeat (first | exact (Kd.R_reads' HO_338000.out).2.2 | (with_reducible refine Kd.C_alloc ?_ _) | (with_reducible refine Kd.C_drewN ?_ _) | (with_reducible refine Kd.C_drew ?_))); (case side2 => rw [show t347.length = t333.length from (Kd.R_reads' HO_338000.out).1.symm]; exact (Kd.R_reads' HO_338000.out).2.1); rintro e w70 ⟨rfl, hb⟩; refine ⟨_, rfl, ?_⟩; have n0_ := Aside0.mk (Kd.R_below (by (with_reducible repeat (first | apply Kd.R_alloc | apply Kd.R_drewN | apply Kd.R_drew)); exact HO_330000.out) hb); have n1_ := Aside0.mk (Kd.R_below (by (with_reducible repeat (first | apply Kd.R_alloc | apply Kd.R_drewN | apply Kd.R_drew)); exact HO_338000.out) hb); have n2_ := Aside0.mk (blk_below (g := gb329) (o := .cells #[.slice Ao16 t325.length co16] 24 (0, 0)) (by (with_reducible repeat (first | refine blk_drewN ?_ _ | refine blk_drew ?_ | refine blk_alloc ?_ _)); exact BK329.out) hb); have n3_ := Aside0.mk (blk_below (g := gb337) (o := .cells #[.slice Ao24 t333.length co24] 24 (0, 0)) (by (with_reducible repeat (first | refine blk_drewN ?_ _ | refine blk_drew ?_ | refine blk_alloc ?_ _)); exact BK337.out) hb); have n4_ := Aside0.mk (below_step (by repeat (first | (with_reducible first | exact HB.out | apply below_alloc | apply pw_below_drewN | apply below_drew1 | refine below_set ?_ GE329.out | refine below_set ?_ GE337.out) | exact HB.out)) hb); clear HO_330000; clear HO_338000; clear BK329; clear BK337; clear HB; have HO_330000 := n0_; have HO_338000 := n1_; have BK329 := n2_; have BK337 := n3_; have HB := n4_; clear n0_ n1_ n2_ n3_ n4_; (try clear hb); (try clear hb2); (try clear hk); (try clear hi)))
                    go_ret
                    exact ⟨by first | rfl | (simp [errW_none, errW_some] <;> rfl) | (simp [*, errW_none, errW_some] <;> rfl), by repeat (first | (with_reducible first | exact HB.out | apply below_alloc | apply pw_below_drewN | apply below_drew1 | refine below_set ?_ GE329.out | refine below_set ?_ GE337.out) | exact HB.out)⟩
                  · rw [if_neg c65] at H
                    have c65b0 : decide (t348 < 0) = false := decide_eq_false c65
                    clear c65
                    by_cases c71 : t348 = t346
                    · rw [if_pos c71] at H
                      have c71b0 : (t348 == t346) = true := beq_iff_eq.mpr c71
                      have c71b1 : (t348 != t346) = false := bne_eq_false_iff_eq.mpr c71
                      clear c71
                      replace H := Option.bind_eq_some_iff.mp H
                      obtain ⟨t349, A720, H⟩ := H
                      replace H : ((impl_FromCovers.f kj43 a0 t349).bind fun bt352 => ((laws_eqPoset.f kj43 bt352.1 t325).bind fun t357 => (if t357 = true then (laws_FnExactFromCovers.j2 kj43 t346 (bt352.2 != t328) t347) else (laws_FnExactFromCovers.j2 kj43 t346 true t347)))) = some r := H
                      have A72 := Aside0.mk A720
                      clear A720
                      replace H := Option.bind_eq_some_iff.mp H
                      obtain ⟨⟨t352, t355⟩, A730, H⟩ := H
                      replace H : ((laws_eqPoset.f kj43 t352 t325).bind fun t357 => (if t357 = true then (laws_FnExactFromCovers.j2 kj43 t346 (t355 != t328) t347) else (laws_FnExactFromCovers.j2 kj43 t346 true t347))) = some r := H
                      have A73 := Aside0.mk A730
                      clear A730
                      have HC74 := Aside0.mk H
                      clear H
                      have hnb75 := NB337_329.out
                      have hnc75 := NB329_337.out
                      have hcz76_0 : wc.cell? ⟨gb337, 0, none⟩ = some (.slice Ao24 t333.length co24) := (blk_cell BK337.out 0).trans rfl
                      have hfz76_0 := blk_frozen BK337.out 0
                      go_upto_region 25 with (first | ((with_reducible refine gate_callee (f := 10) rfl ?_); refine goesL_ (some 68) rfl rfl Try.func10 (by kernel_rfl) rfl #[.agg #[.slice Ao24 t333.length co24], .int .i64 1] rfl (by (try simp only [List.map_toArray, List.map_cons, List.map_nil]); first | done | rfl | (simp only [List.length_drop, List.length_take]; rfl)) ?_; (with_reducible refine (laws_markPoset.calls kj43 (fun k_ => some k_ = (.slice Ao24 t333.length co24 : Value).ownBlock) (.slice Ao24 t333.length co24) t333 1 t346 t347 w _ ?side1 ?side2 A63.out).mono ?_); (case side1 => repeat (first | (with_reducible first | exact HB.out | apply below_alloc | apply pw_below_drewN | apply below_drew1 | refine below_set ?_ GE329.out | refine below_set ?_ GE337.out) | exact HB.out)); (case side2 => exact Kd.R_tight rfl HO_338000.out); rintro e w77 ⟨rfl, hy0, hb, hkp⟩; refine ⟨_, rfl, ?_⟩; have n0_ := Aside0.mk (Kd.R_mono (ok' := fun k_ => some k_ ≠ (.slice Ao24 t333.length co24 : Value).ownBlock ∧ N14 ≤ k_ ∧ k_ < N19 ∧ k_ < N22 ∧ k_ < N46) (Kd.R_keptB (HO_330000.out) hkp (fun k_ hk_ hs_ => (hk_.1) hs_)) (fun k_ hk_ => ⟨hk_.1.1, hk_.1.2.1, hk_.1.2.2.1, hk_.1.2.2.2.1, hk_.1.2.2.2.2⟩)); have n1_ := Aside0.mk (Kd.R_reok rfl hy0 (fun k_ e_ => HO_338000.out.1 k_ e_)); have n2_ := Aside0.mk (blk_kept (by (with_reducible repeat (first | refine blk_drewN ?_ _ | refine blk_drew ?_ | refine blk_alloc ?_ _)); exact BK329.out) hkp (fun hs_ => (fun e_ => (Kd.R_ne HO_338000.out BK329.out (by decide)) e_) hs_)); have n3_ := Aside0.mk (blk_kept (by (with_reducible repeat (first | refine blk_drewN ?_ _ | refine blk_drew ?_ | refine blk_alloc ?_ _)); exact BK337.out) hkp (fun hs_ => (fun e_ => (Kd.R_ne HO_338000.out BK337.out (by decide)) e_) hs_)); have n4_ := Aside0.mk (hb); clear HO_330000; clear HO_338000; clear BK329; clear BK337; clear HB; have HO_330000 := n0_; have HO_338000 := n1_; have BK329 := n2_; have BK337 := n3_; have HB := n4_; clear n0_ n1_ n2_ n3_ n4_; (try clear hb); (try clear hkp); (try clear hy0); have hcz78_0 : w77.cell? ⟨gb337, 0, none⟩ = some (.slice Ao24 t333.length co24) := (blk_cell BK337.out 0).trans rfl; have hfz78_0 := blk_frozen BK337.out 0) | ((with_reducible refine gate_callee (f := 11) rfl ?_); refine goesL_ (some 71) rfl rfl Try.func11 (by kernel_rfl) rfl #[.agg #[.slice Ao24 t347.length co24], .int .i64 1] rfl (by (try simp only [List.map_toArray, List.map_cons, List.map_nil]); first | done | (rw [show t347.length = t333.length from (Kd.R_reads' HO_338000.out).1.symm] <;> rfl) | rfl | (simp only [List.length_drop, List.length_take]; rfl)) ?_; (with_reducible refine (laws_heldPoset.calls kj43 _ _ t347 1 t348 _ ?side1 ?side2 A64.out).mono ?_); (case side1 => repeat (first | exact (Kd.R_reads' HO_338000.out).2.2 | (with_reducible refine Kd.C_alloc ?_ _) | (with_reducible refine Kd.C_drewN ?_ _) | (with_reducible refine Kd.C_drew ?_))); (case side2 => rw [show t347.length = t333.length from (Kd.R_reads' HO_338000.out).1.symm]; exact (Kd.R_reads' HO_338000.out).2.1); rintro e w79 ⟨rfl, hb⟩; refine ⟨_, rfl, ?_⟩; have n0_ := Aside0.mk (Kd.R_below (by (with_reducible repeat (first | apply Kd.R_alloc | apply Kd.R_drewN | apply Kd.R_drew)); exact HO_330000.out) hb); have n1_ := Aside0.mk (Kd.R_below (by (with_reducible repeat (first | apply Kd.R_alloc | apply Kd.R_drewN | apply Kd.R_drew)); exact HO_338000.out) hb); have n2_ := Aside0.mk (blk_below (g := gb329) (o := .cells #[.slice Ao16 t325.length co16] 24 (0, 0)) (by (with_reducible repeat (first | refine blk_drewN ?_ _ | refine blk_drew ?_ | refine blk_alloc ?_ _)); exact BK329.out) hb); have n3_ := Aside0.mk (blk_below (g := gb337) (o := .cells #[.slice Ao24 t333.length co24] 24 (0, 0)) (by (with_reducible repeat (first | refine blk_drewN ?_ _ | refine blk_drew ?_ | refine blk_alloc ?_ _)); exact BK337.out) hb); have n4_ := Aside0.mk (below_step (by repeat (first | (with_reducible first | exact HB.out | apply below_alloc | apply pw_below_drewN | apply below_drew1 | refine below_set ?_ GE329.out | refine below_set ?_ GE337.out) | exact HB.out)) hb); clear HO_330000; clear HO_338000; clear BK329; clear BK337; clear HB; have HO_330000 := n0_; have HO_338000 := n1_; have BK329 := n2_; have BK337 := n3_; have HB := n4_; clear n0_ n1_ n2_ n3_ n4_; (try clear hb); (try clear hb2); (try clear hk); (try clear hi)) | ((with_reducible refine gate_callee (f := 16) rfl ?_); refine goesL_ (some 80) rfl rfl Try.func16 (by kernel_rfl) rfl #[.slice A1 l1.length c1] rfl (by (try simp only [List.map_toArray, List.map_cons, List.map_nil]); first | done | rfl | (simp only [List.length_drop, List.length_take]; rfl)) ?_; (with_reducible refine (laws_toIntSS.calls kj43 _ _ l1 t349 _ ?side1 ?side2 A72.out).mono ?_); (case side1 => repeat (first | exact (Kd.C_below HR1.out HB.out) | (with_reducible refine Kd.C_alloc ?_ _) | (with_reducible refine Kd.C_drewN ?_ _) | (with_reducible refine Kd.C_drew ?_))); (case side2 => exact HC1.out); rintro e w80 ⟨v350, rfl, ho0, hb⟩; refine ⟨_, rfl, ?_⟩; obtain ⟨N81, hN81⟩ := num_of hb; replace hN81 := Aside0.mk hN81; have n0_ := Aside0.mk (Kd.R_numE hN81.out (Kd.R_old (by (with_reducible repeat (first | apply Kd.R_alloc | apply Kd.R_drewN | apply Kd.R_drew)); exact HO_330000.out) hb)); have n1_ := Aside0.mk (Kd.R_numE hN81.out (Kd.R_old (by (with_reducible repeat (first | apply Kd.R_alloc | apply Kd.R_drewN | apply Kd.R_drew)); exact HO_338000.out) hb)); have n2_ := Aside0.mk (Kd.S_lower (Kd.S_new' (Kd.S_new' (Kd.S_numN hN81.out ho0) (Kd.R_lt (by (with_reducible repeat (first | apply Kd.R_alloc | apply Kd.R_drewN | apply Kd.R_drew)); exact HO_330000.out))) (Kd.R_lt (by (with_reducible repeat (first | apply Kd.R_alloc | apply Kd.R_drewN | apply Kd.R_drew)); exact HO_338000.out))) (below_size (by repeat (first | (with_reducible first | exact HB.out | apply below_alloc | apply pw_below_drewN | apply below_drew1 | refine below_set ?_ GE329.out | refine below_set ?_ GE337.out) | exact HB.out)))); have n3_ := Aside0.mk (blk_below (g := gb329) (o := .cells #[.slice Ao16 t325.length co16] 24 (0, 0)) (by (with_reducible repeat (first | refine blk_drewN ?_ _ | refine blk_drew ?_ | refine blk_alloc ?_ _)); exact BK329.out) hb); have n4_ := Aside0.mk (blk_below (g := gb337) (o := .cells #[.slice Ao24 t333.length co24] 24 (0, 0)) (by (with_reducible repeat (first | refine blk_drewN ?_ _ | refine blk_drew ?_ | refine blk_alloc ?_ _)); exact BK337.out) hb); have n5_ := Aside0.mk (below_step (by repeat (first | (with_reducible first | exact HB.out | apply below_alloc | apply pw_below_drewN | apply below_drew1 | refine below_set ?_ GE329.out | refine below_set ?_ GE337.out) | exact HB.out)) hb); clear HO_330000; clear HO_338000; clear BK329; clear BK337; clear HB; have HO_330000 := n0_; have HO_338000 := n1_; have HO351 := n2_; have BK329 := n3_; have BK337 := n4_; have HB := n5_; clear n0_ n1_ n2_ n3_ n4_ n5_; (try clear hb); (try clear hb2); (try clear hk); (try clear hi); (try clear ho0); obtain ⟨Ao82, co82, eo82⟩ := Kd.S_slice HO351.out; subst eo82) | ((with_reducible refine gate_callee (f := 17) rfl ?_); refine goesL_ (some 81) rfl rfl Try.func17 (by kernel_rfl) rfl #[.int .i64 a0, .slice Ao82 t349.length co82] rfl (by (try simp only [List.map_toArray, List.map_cons, List.map_nil]); first | done | rfl | (simp only [List.length_drop, List.length_take]; rfl)) ?_; (with_reducible refine (impl_FromCovers.calls kj43 a0 _ _ t349 t352 t355 _ ?side1 ?side2 A73.out).mono ?_); (case side1 => repeat (first | exact (Kd.S_reads' HO351.out).2.2 | (with_reducible refine Kd.C_alloc ?_ _) | (with_reducible refine Kd.C_drewN ?_ _) | (with_reducible refine Kd.C_drew ?_))); (case side2 => exact (Kd.S_reads' HO351.out).2.1); rintro e w83 ⟨v353, rfl, ho0, hb⟩; refine ⟨_, rfl, ?_⟩; obtain ⟨N84, hN84⟩ := num_of hb; replace hN84 := Aside0.mk hN84; have n0_ := Aside0.mk (Kd.R_numE hN84.out (Kd.R_told (Kd.R_old (by (with_reducible repeat (first | apply Kd.R_alloc | apply Kd.R_drewN | apply Kd.R_drew)); exact HO_330000.out) hb) (Kd.R_base ho0))); have n1_ := Aside0.mk (Kd.R_numE hN84.out (Kd.R_told (Kd.R_old (by (with_reducible repeat (first | apply Kd.R_alloc | apply Kd.R_drewN | apply Kd.R_drew)); exact HO_338000.out) hb) (Kd.R_base ho0))); have n2_ := Aside0.mk (Kd.S_numE hN84.out (Kd.S_told (Kd.S_old (by (with_reducible repeat (first | apply Kd.S_alloc | apply Kd.S_drewN | apply Kd.S_drew)); exact HO351.out) hb) (Kd.R_base ho0))); have n3_ := Aside0.mk (Kd.R_lower (Kd.R_new' (Kd.R_new' (Kd.R_numN hN84.out ho0) (Kd.R_lt (by (with_reducible repeat (first | apply Kd.R_alloc | apply Kd.R_drewN | apply Kd.R_drew)); exact HO_330000.out))) (Kd.R_lt (by (with_reducible repeat (first | apply Kd.R_alloc | apply Kd.R_drewN | apply Kd.R_drew)); exact HO_338000.out))) (below_size (by repeat (first | (with_reducible first | exact HB.out | apply below_alloc | apply pw_below_drewN | apply below_drew1 | refine below_set ?_ GE329.out | refine below_set ?_ GE337.out) | exact HB.out)))); have n4_ := Aside0.mk (blk_below (g := gb329) (o := .cells #[.slice Ao16 t325.length co16] 24 (0, 0)) (by (with_reducible repeat (first | refine blk_drewN ?_ _ | refine blk_drew ?_ | refine blk_alloc ?_ _)); exact BK329.out) hb); have n5_ := Aside0.mk (blk_below (g := gb337) (o := .cells #[.slice Ao24 t333.length co24] 24 (0, 0)) (by (with_reducible repeat (first | refine blk_drewN ?_ _ | refine blk_drew ?_ | refine blk_alloc ?_ _)); exact BK337.out) hb); have n6_ := Aside0.mk (below_step (by repeat (first | (with_reducible first | exact HB.out | apply below_alloc | apply pw_below_drewN | apply below_drew1 | refine below_set ?_ GE329.out | refine below_set ?_ GE337.out) | exact HB.out)) hb); clear HO_330000; clear HO_338000; clear HO351; clear BK329; clear BK337; clear HB; have HO_330000 := n0_; have HO_338000 := n1_; have HO351 := n2_; have HO354 := n3_; have BK329 := n4_; have BK337 := n5_; have HB := n6_; clear n0_ n1_ n2_ n3_ n4_ n5_ n6_; (try clear hb); (try clear hb2); (try clear hk); (try clear hi); (try clear ho0)) | ((with_reducible refine gate_dst (N := 14) rfl ?_); refine box_event ?hg (N := 14) ?hd (cs := #[.slice none 0 0]) (t := 24) ?hr ?_; (case hd => rfl); (case hg => rfl); (case hr => first | (go_simp; done) | (go_simp; rfl)); intro gb356 hg w85 hbox hb; have n0_ := Aside0.mk (Kd.R_below (by (with_reducible repeat (first | apply Kd.R_alloc | apply Kd.R_drewN | apply Kd.R_drew)); exact HO_330000.out) hb); have n1_ := Aside0.mk (Kd.R_below (by (with_reducible repeat (first | apply Kd.R_alloc | apply Kd.R_drewN | apply Kd.R_drew)); exact HO_338000.out) hb); have n2_ := Aside0.mk (Kd.S_below (by (with_reducible repeat (first | apply Kd.S_alloc | apply Kd.S_drewN | apply Kd.S_drew)); exact HO351.out) hb); have n3_ := Aside0.mk (Kd.R_below (by (with_reducible repeat (first | apply Kd.R_alloc | apply Kd.R_drewN | apply Kd.R_drew)); exact HO354.out) hb); have n4_ := Aside0.mk (blk_below (g := gb329) (o := .cells #[.slice Ao16 t325.length co16] 24 (0, 0)) (by (with_reducible repeat (first | refine blk_drewN ?_ _ | refine blk_drew ?_ | refine blk_alloc ?_ _)); exact BK329.out) hb); have n5_ := Aside0.mk (blk_below (g := gb337) (o := .cells #[.slice Ao24 t333.length co24] 24 (0, 0)) (by (with_reducible repeat (first | refine blk_drewN ?_ _ | refine blk_drew ?_ | refine blk_alloc ?_ _)); exact BK337.out) hb); have n6_ := Aside0.mk (below_step (by repeat (first | (with_reducible first | exact HB.out | apply below_alloc | apply pw_below_drewN | apply below_drew1 | refine below_set ?_ GE329.out | refine below_set ?_ GE337.out) | exact HB.out)) hb); have n7_ := Aside0.mk (hbox); have n8_ := Aside0.mk ((by rw [hg]; exact (below_size (by repeat (first | (with_reducible first | exact HB.out | apply below_alloc | apply pw_below_drewN | apply below_drew1 | refine below_set ?_ GE329.out | refine below_set ?_ GE337.out) | exact HB.out))) : w.heap.size ≤ gb356)); have n9_ := Aside0.mk ((by rw [hg]; exact (below_size (by repeat (first | (with_reducible first | exact HB.out | apply below_alloc | apply pw_below_drewN | apply below_drew1 | refine below_set ?_ GE329.out | refine below_set ?_ GE337.out) | exact HB.out))) : w.heap.size ≤ gb356)); have n10_ := Aside0.mk ((by rw [hg]; exact Nat.ne_of_lt (blk_lt (g := gb329) (o := .cells #[.slice Ao16 t325.length co16] 24 (0, 0)) (by (with_reducible repeat (first | refine blk_drewN ?_ _ | refine blk_drew ?_ | refine blk_alloc ?_ _)); exact BK329.out)) : gb329 ≠ gb356)); have n11_ := Aside0.mk ((by rw [hg]; exact Nat.ne_of_gt (blk_lt (g := gb329) (o := .cells #[.slice Ao16 t325.length co16] 24 (0, 0)) (by (with_reducible repeat (first | refine blk_drewN ?_ _ | refine blk_drew ?_ | refine blk_alloc ?_ _)); exact BK329.out)) : gb356 ≠ gb329)); have n12_ := Aside0.mk ((by rw [hg]; exact Nat.ne_of_lt (blk_lt (g := gb337) (o := .cells #[.slice Ao24 t333.length co24] 24 (0, 0)) (by (with_reducible repeat (first | refine blk_drewN ?_ _ | refine blk_drew ?_ | refine blk_alloc ?_ _)); exact BK337.out)) : gb337 ≠ gb356)); have n13_ := Aside0.mk ((by rw [hg]; exact Nat.ne_of_gt (blk_lt (g := gb337) (o := .cells #[.slice Ao24 t333.length co24] 24 (0, 0)) (by (with_reducible repeat (first | refine blk_drewN ?_ _ | refine blk_drew ?_ | refine blk_alloc ?_ _)); exact BK337.out)) : gb356 ≠ gb337)); clear HO_330000; clear HO_338000; clear HO351; clear HO354; clear BK329; clear BK337; clear HB; have HO_330000 := n0_; have HO_338000 := n1_; have HO351 := n2_; have HO354 := n3_; have BK329 := n4_; have BK337 := n5_; have HB := n6_; have BK356 := n7_; have GW356 := n8_; have GE356 := n9_; have NB329_356 := n10_; have NB356_329 := n11_; have NB337_356 := n12_; have NB356_337 := n13_; clear n0_ n1_ n2_ n3_ n4_ n5_ n6_ n7_ n8_ n9_ n10_ n11_ n12_ n13_; clear hb hbox hg; obtain ⟨Ao86, co86, eo86⟩ := Kd.R_slice HO354.out; subst eo86; have hnb87 := NB356_329.out; have hnc87 := NB329_356.out; have hnb88 := NB356_337.out; have hnc88 := NB337_356.out; have hcz89_0 : w85.cell? ⟨gb356, 0, none⟩ = some (.slice none 0 0) := (blk_cell BK356.out 0).trans rfl; have hfz89_0 := blk_frozen BK356.out 0))
                      (try simp only [Act.put, List.setIfInBounds_toArray, List.set_cons_zero, List.set_cons_succ])
                      go_cut [92] (fun v92 wc => ∃ (kq : Nat) (x92_73 : Bool), v92 = .bool x92_73 ∧ Aside0 (laws_FnExactFromCovers.j2 kq t346 x92_73 t347 = some r) ∧ Aside0 (kq ≤ kj43) ∧ Aside0 (Kd.R (Kd.int .i64) 3 wc w.heap.size (fun k_ => some k_ ≠ ((.slice Ao24 t333.length co24) : Value).ownBlock ∧ some k_ ≠ ((.slice Ao86 t352.length co86) : Value).ownBlock ∧ N14 ≤ k_ ∧ k_ < N19 ∧ k_ < N22 ∧ k_ < N46 ∧ k_ < N81 ∧ k_ < N84) (.slice Ao16 t325.length co16) t325) ∧ Aside0 (Kd.R (Kd.int .i64) 3 wc w.heap.size (fun k_ => some k_ ≠ ((.slice Ao16 t325.length co16) : Value).ownBlock ∧ some k_ ≠ ((.slice Ao86 t352.length co86) : Value).ownBlock ∧ N22 ≤ k_ ∧ k_ < N46 ∧ k_ < N81 ∧ k_ < N84) (.slice Ao24 t333.length co24) t347) ∧ Aside0 (Kd.R (Kd.int .i64) 3 wc w.heap.size (fun k_ => some k_ ≠ ((.slice Ao16 t325.length co16) : Value).ownBlock ∧ some k_ ≠ ((.slice Ao24 t333.length co24) : Value).ownBlock ∧ N84 ≤ k_) (.slice Ao86 t352.length co86) t352) ∧ Aside0 (wc.heap[gb329]? = some (.cells #[(.slice Ao16 t325.length co16)] 24 (0, 0))) ∧ Aside0 (wc.heap[gb337]? = some (.cells #[(.slice Ao24 t333.length co24)] 24 (0, 0))) ∧ Aside0 (wc.heap[gb356]? = some (.cells #[(.slice Ao86 t352.length co86)] 24 (0, 0))) ∧ Aside0 (Below w.heap.size w wc))
                      case first =>
                        have H := HC74.out
                        clear HC74
                        replace H := Option.bind_eq_some_iff.mp H
                        obtain ⟨t357, A900, H⟩ := H
                        replace H : (if t357 = true then (laws_FnExactFromCovers.j2 kj43 t346 (t355 != t328) t347) else (laws_FnExactFromCovers.j2 kj43 t346 true t347)) = some r := H
                        have A90 := Aside0.mk A900
                        clear A900
                        by_cases c91 : t357 = true
                        · subst c91
                          have H1 : (laws_FnExactFromCovers.j2 kj43 t346 (t355 != t328) t347) = some r := by rw [if_pos rfl] at H; exact H
                          clear H
                          have H := H1
                          clear H1
                          have H' := Aside0.mk H
                          clear H
                          have hnb92 := NB356_329.out
                          have hnc92 := NB329_356.out
                          have hnb93 := NB356_337.out
                          have hnc93 := NB337_356.out
                          have hcz94_0 : w85.cell? ⟨gb356, 0, none⟩ = some (.slice none 0 0) := (blk_cell BK356.out 0).trans rfl
                          have hfz94_0 := blk_frozen BK356.out 0
                          have hnb95 := NB329_337.out
                          have hnc95 := NB337_329.out
                          have hcz96_0 : w85.cell? ⟨gb329, 0, none⟩ = some (.slice Ao16 t325.length co16) := (blk_cell BK329.out 0).trans rfl
                          have hfz96_0 := blk_frozen BK329.out 0
                          go_wp2_with (first | ((with_reducible refine gate_callee (f := 9) rfl ?_); refine goesL_ (some 86) rfl rfl Try.func9 (by kernel_rfl) rfl #[.agg #[.slice Ao86 t352.length co86], .agg #[.slice Ao16 t325.length co16]] rfl (by (try simp only [List.map_toArray, List.map_cons, List.map_nil]); first | done | rfl | (simp only [List.length_drop, List.length_take]; rfl)) ?_; (with_reducible refine (laws_eqPoset.calls kj43 _ _ t352 _ _ t325 true _ ?side1 ?side2 ?side3 ?side4 A90.out).mono ?_); (case side1 => refine (Kd.R_reads' (e := 3) (base := w.heap.size) (ok := fun k_ => (((True ∧ N84 ≤ k_) ∧ some k_ ≠ (.slice Ao16 t325.length co16 : Value).ownBlock) ∧ some k_ ≠ (.slice Ao24 t333.length co24 : Value).ownBlock)) (n := t352.length) (c := co86) ?_).2.2; exact (by (with_reducible repeat (first | apply Kd.R_alloc | apply Kd.R_drewN | apply Kd.R_drew)); exact (Kd.R_mono (Kd.R_far (p := ⟨gb356, 0, none⟩) (Kd.R_types HO354.out BK356.out (by decide)) (fun _ hk => hk.2) (.slice Ao86 t352.length co86)) (fun _ h_ => h_.1)))); (case side2 => exact (Kd.R_reads' HO354.out).2.1); (case side3 => refine (Kd.R_reads' (e := 3) (base := w.heap.size) (ok := fun k_ => ((((some k_ ≠ (.slice Ao24 t333.length co24 : Value).ownBlock ∧ (N14 ≤ k_ ∧ (k_ < N19 ∧ (k_ < N22 ∧ k_ < N46)))) ∧ k_ < N81) ∧ some k_ ≠ (.slice Ao86 t352.length co86 : Value).ownBlock) ∧ k_ < N84)) (n := t325.length) (c := co16) ?_).2.2; exact (by (with_reducible repeat (first | apply Kd.R_alloc | apply Kd.R_drewN | apply Kd.R_drew)); exact (Kd.R_mono (Kd.R_far (p := ⟨gb356, 0, none⟩) (Kd.R_types HO_330000.out BK356.out (by decide)) (fun _ hk => hk.2) (.slice Ao86 t352.length co86)) (fun _ h_ => h_.1)))); (case side4 => exact (Kd.R_reads' HO_330000.out).2.1); rintro e w97 ⟨rfl, hb⟩; refine ⟨_, rfl, ?_⟩; obtain ⟨N98, hN98⟩ := num_of hb; replace hN98 := Aside0.mk hN98; have n0_ := Aside0.mk (Kd.R_numE hN98.out (Kd.R_old (by (with_reducible repeat (first | apply Kd.R_alloc | apply Kd.R_drewN | apply Kd.R_drew)); exact (Kd.R_mono (Kd.R_far (p := ⟨gb356, 0, none⟩) (Kd.R_types HO_330000.out BK356.out (by decide)) (fun _ hk => hk.2) (.slice Ao86 t352.length co86)) (fun _ h_ => h_.1))) hb)); have n1_ := Aside0.mk (Kd.R_numE hN98.out (Kd.R_old (by (with_reducible repeat (first | apply Kd.R_alloc | apply Kd.R_drewN | apply Kd.R_drew)); exact (Kd.R_mono (Kd.R_far (p := ⟨gb356, 0, none⟩) (Kd.R_types HO_338000.out BK356.out (by decide)) (fun _ hk => hk.2) (.slice Ao86 t352.length co86)) (fun _ h_ => h_.1))) hb)); have n2_ := Aside0.mk (Kd.S_numE hN98.out (Kd.S_old (by (with_reducible repeat (first | apply Kd.S_alloc | apply Kd.S_drewN | apply Kd.S_drew)); exact (Kd.S_mono (Kd.S_far (p := ⟨gb356, 0, none⟩) (Kd.S_types HO351.out BK356.out (by decide)) (fun _ hk => hk.2) (.slice Ao86 t352.length co86)) (fun _ h_ => h_.1))) hb)); have n3_ := Aside0.mk (Kd.R_numE hN98.out (Kd.R_old (by (with_reducible repeat (first | apply Kd.R_alloc | apply Kd.R_drewN | apply Kd.R_drew)); exact (Kd.R_mono (Kd.R_far (p := ⟨gb356, 0, none⟩) (Kd.R_types HO354.out BK356.out (by decide)) (fun _ hk => hk.2) (.slice Ao86 t352.length co86)) (fun _ h_ => h_.1))) hb)); have n4_ := Aside0.mk (blk_below (g := gb329) (o := .cells #[.slice Ao16 t325.length co16] 24 (0, 0)) (by (with_reducible repeat (first | refine blk_drewN ?_ _ | refine blk_drew ?_ | refine blk_alloc ?_ _)); refine blk_far ?_ NB329_356.out _; (with_reducible repeat (first | refine blk_drewN ?_ _ | refine blk_drew ?_ | refine blk_alloc ?_ _)); exact BK329.out) hb); have n5_ := Aside0.mk (blk_below (g := gb337) (o := .cells #[.slice Ao24 t333.length co24] 24 (0, 0)) (by (with_reducible repeat (first | refine blk_drewN ?_ _ | refine blk_drew ?_ | refine blk_alloc ?_ _)); refine blk_far ?_ NB337_356.out _; (with_reducible repeat (first | refine blk_drewN ?_ _ | refine blk_drew ?_ | refine blk_alloc ?_ _)); exact BK337.out) hb); have n6_ := Aside0.mk (blk_below (g := gb356) (o := .cells #[.slice Ao86 t352.length co86] 24 (0, 0)) (by (with_reducible repeat (first | refine blk_drewN ?_ _ | refine blk_drew ?_ | refine blk_alloc ?_ _)); refine blk_put (cs := #[.slice none 0 0]) ?_ 0 _ rfl; (with_reducible repeat (first | refine blk_drewN ?_ _ | refine blk_drew ?_ | refine blk_alloc ?_ _)); exact BK356.out) hb); have n7_ := Aside0.mk (below_step (by repeat (first | (with_reducible first | exact HB.out | apply below_alloc | apply pw_below_drewN | apply below_drew1 | refine below_set ?_ GE329.out | refine below_set ?_ GE337.out | refine below_set ?_ GE356.out) | exact HB.out)) hb); clear HO_330000; clear HO_338000; clear HO351; clear HO354; clear BK329; clear BK337; clear BK356; clear HB; have HO_330000 := n0_; have HO_338000 := n1_; have HO351 := n2_; have HO354 := n3_; have BK329 := n4_; have BK337 := n5_; have BK356 := n6_; have HB := n7_; clear n0_ n1_ n2_ n3_ n4_ n5_ n6_ n7_; (try clear hb); (try clear hb2); (try clear hk); (try clear hi)))
                          go_meet
                          case rel => exact ⟨_, ((t355 != t328)), (by first | rfl | (simp; done) | (simp [*]; done)), H', ⟨by have := HJ8.out; have := HJ43.out; first | omega | exact Nat.le_refl _⟩, ⟨by (with_reducible repeat (first | apply Kd.R_alloc | apply Kd.R_drewN | apply Kd.R_drew)); exact Kd.R_mono HO_330000.out (fun _ hk => ⟨hk.1.1.1.1.1, ⟨hk.1.1.2, ⟨hk.1.1.1.1.2.1, ⟨hk.1.1.1.1.2.2.1, ⟨hk.1.1.1.1.2.2.2.1, ⟨hk.1.1.1.1.2.2.2.2, ⟨hk.1.1.1.2, hk.1.2⟩⟩⟩⟩⟩⟩⟩)⟩, ⟨by (with_reducible repeat (first | apply Kd.R_alloc | apply Kd.R_drewN | apply Kd.R_drew)); exact Kd.R_mono HO_338000.out (fun _ hk => ⟨hk.1.1.1.1.1, ⟨hk.1.1.2, ⟨hk.1.1.1.1.2.1, ⟨hk.1.1.1.1.2.2, ⟨hk.1.1.1.2, hk.1.2⟩⟩⟩⟩⟩)⟩, ⟨by (with_reducible repeat (first | apply Kd.R_alloc | apply Kd.R_drewN | apply Kd.R_drew)); exact Kd.R_mono HO354.out (fun _ hk => ⟨hk.1.1.2, ⟨hk.1.2, hk.1.1.1.2⟩⟩)⟩, ⟨by (with_reducible repeat (first | refine blk_drewN ?_ _ | refine blk_drew ?_ | refine blk_alloc ?_ _)); exact BK329.out⟩, ⟨by (with_reducible repeat (first | refine blk_drewN ?_ _ | refine blk_drew ?_ | refine blk_alloc ?_ _)); exact BK337.out⟩, ⟨by (with_reducible repeat (first | refine blk_drewN ?_ _ | refine blk_drew ?_ | refine blk_alloc ?_ _)); exact BK356.out⟩, ⟨by repeat (first | (with_reducible first | exact HB.out | apply below_alloc | apply pw_below_drewN | apply below_drew1 | refine below_set ?_ GE329.out | refine below_set ?_ GE337.out | refine below_set ?_ GE356.out) | exact HB.out)⟩⟩
                        · replace c91 := Bool.eq_false_iff.mpr c91
                          subst c91
                          have H1 : (laws_FnExactFromCovers.j2 kj43 t346 true t347) = some r := by rw [if_neg (show ¬ (false = true) by decide)] at H; exact H
                          clear H
                          have H := H1
                          clear H1
                          have H' := Aside0.mk H
                          clear H
                          have hnb99 := NB356_329.out
                          have hnc99 := NB329_356.out
                          have hnb100 := NB356_337.out
                          have hnc100 := NB337_356.out
                          have hcz101_0 : w85.cell? ⟨gb356, 0, none⟩ = some (.slice none 0 0) := (blk_cell BK356.out 0).trans rfl
                          have hfz101_0 := blk_frozen BK356.out 0
                          have hnb102 := NB329_337.out
                          have hnc102 := NB337_329.out
                          have hcz103_0 : w85.cell? ⟨gb329, 0, none⟩ = some (.slice Ao16 t325.length co16) := (blk_cell BK329.out 0).trans rfl
                          have hfz103_0 := blk_frozen BK329.out 0
                          go_wp2_with (first | ((with_reducible refine gate_callee (f := 9) rfl ?_); refine goesL_ (some 86) rfl rfl Try.func9 (by kernel_rfl) rfl #[.agg #[.slice Ao86 t352.length co86], .agg #[.slice Ao16 t325.length co16]] rfl (by (try simp only [List.map_toArray, List.map_cons, List.map_nil]); first | done | rfl | (simp only [List.length_drop, List.length_take]; rfl)) ?_; (with_reducible refine (laws_eqPoset.calls kj43 _ _ t352 _ _ t325 false _ ?side1 ?side2 ?side3 ?side4 A90.out).mono ?_); (case side1 => refine (Kd.R_reads' (e := 3) (base := w.heap.size) (ok := fun k_ => (((True ∧ N84 ≤ k_) ∧ some k_ ≠ (.slice Ao16 t325.length co16 : Value).ownBlock) ∧ some k_ ≠ (.slice Ao24 t333.length co24 : Value).ownBlock)) (n := t352.length) (c := co86) ?_).2.2; exact (by (with_reducible repeat (first | apply Kd.R_alloc | apply Kd.R_drewN | apply Kd.R_drew)); exact (Kd.R_mono (Kd.R_far (p := ⟨gb356, 0, none⟩) (Kd.R_types HO354.out BK356.out (by decide)) (fun _ hk => hk.2) (.slice Ao86 t352.length co86)) (fun _ h_ => h_.1)))); (case side2 => exact (Kd.R_reads' HO354.out).2.1); (case side3 => refine (Kd.R_reads' (e := 3) (base := w.heap.size) (ok := fun k_ => ((((some k_ ≠ (.slice Ao24 t333.length co24 : Value).ownBlock ∧ (N14 ≤ k_ ∧ (k_ < N19 ∧ (k_ < N22 ∧ k_ < N46)))) ∧ k_ < N81) ∧ some k_ ≠ (.slice Ao86 t352.length co86 : Value).ownBlock) ∧ k_ < N84)) (n := t325.length) (c := co16) ?_).2.2; exact (by (with_reducible repeat (first | apply Kd.R_alloc | apply Kd.R_drewN | apply Kd.R_drew)); exact (Kd.R_mono (Kd.R_far (p := ⟨gb356, 0, none⟩) (Kd.R_types HO_330000.out BK356.out (by decide)) (fun _ hk => hk.2) (.slice Ao86 t352.length co86)) (fun _ h_ => h_.1)))); (case side4 => exact (Kd.R_reads' HO_330000.out).2.1); rintro e w104 ⟨rfl, hb⟩; refine ⟨_, rfl, ?_⟩; obtain ⟨N105, hN105⟩ := num_of hb; replace hN105 := Aside0.mk hN105; have n0_ := Aside0.mk (Kd.R_numE hN105.out (Kd.R_old (by (with_reducible repeat (first | apply Kd.R_alloc | apply Kd.R_drewN | apply Kd.R_drew)); exact (Kd.R_mono (Kd.R_far (p := ⟨gb356, 0, none⟩) (Kd.R_types HO_330000.out BK356.out (by decide)) (fun _ hk => hk.2) (.slice Ao86 t352.length co86)) (fun _ h_ => h_.1))) hb)); have n1_ := Aside0.mk (Kd.R_numE hN105.out (Kd.R_old (by (with_reducible repeat (first | apply Kd.R_alloc | apply Kd.R_drewN | apply Kd.R_drew)); exact (Kd.R_mono (Kd.R_far (p := ⟨gb356, 0, none⟩) (Kd.R_types HO_338000.out BK356.out (by decide)) (fun _ hk => hk.2) (.slice Ao86 t352.length co86)) (fun _ h_ => h_.1))) hb)); have n2_ := Aside0.mk (Kd.S_numE hN105.out (Kd.S_old (by (with_reducible repeat (first | apply Kd.S_alloc | apply Kd.S_drewN | apply Kd.S_drew)); exact (Kd.S_mono (Kd.S_far (p := ⟨gb356, 0, none⟩) (Kd.S_types HO351.out BK356.out (by decide)) (fun _ hk => hk.2) (.slice Ao86 t352.length co86)) (fun _ h_ => h_.1))) hb)); have n3_ := Aside0.mk (Kd.R_numE hN105.out (Kd.R_old (by (with_reducible repeat (first | apply Kd.R_alloc | apply Kd.R_drewN | apply Kd.R_drew)); exact (Kd.R_mono (Kd.R_far (p := ⟨gb356, 0, none⟩) (Kd.R_types HO354.out BK356.out (by decide)) (fun _ hk => hk.2) (.slice Ao86 t352.length co86)) (fun _ h_ => h_.1))) hb)); have n4_ := Aside0.mk (blk_below (g := gb329) (o := .cells #[.slice Ao16 t325.length co16] 24 (0, 0)) (by (with_reducible repeat (first | refine blk_drewN ?_ _ | refine blk_drew ?_ | refine blk_alloc ?_ _)); refine blk_far ?_ NB329_356.out _; (with_reducible repeat (first | refine blk_drewN ?_ _ | refine blk_drew ?_ | refine blk_alloc ?_ _)); exact BK329.out) hb); have n5_ := Aside0.mk (blk_below (g := gb337) (o := .cells #[.slice Ao24 t333.length co24] 24 (0, 0)) (by (with_reducible repeat (first | refine blk_drewN ?_ _ | refine blk_drew ?_ | refine blk_alloc ?_ _)); refine blk_far ?_ NB337_356.out _; (with_reducible repeat (first | refine blk_drewN ?_ _ | refine blk_drew ?_ | refine blk_alloc ?_ _)); exact BK337.out) hb); have n6_ := Aside0.mk (blk_below (g := gb356) (o := .cells #[.slice Ao86 t352.length co86] 24 (0, 0)) (by (with_reducible repeat (first | refine blk_drewN ?_ _ | refine blk_drew ?_ | refine blk_alloc ?_ _)); refine blk_put (cs := #[.slice none 0 0]) ?_ 0 _ rfl; (with_reducible repeat (first | refine blk_drewN ?_ _ | refine blk_drew ?_ | refine blk_alloc ?_ _)); exact BK356.out) hb); have n7_ := Aside0.mk (below_step (by repeat (first | (with_reducible first | exact HB.out | apply below_alloc | apply pw_below_drewN | apply below_drew1 | refine below_set ?_ GE329.out | refine below_set ?_ GE337.out | refine below_set ?_ GE356.out) | exact HB.out)) hb); clear HO_330000; clear HO_338000; clear HO351; clear HO354; clear BK329; clear BK337; clear BK356; clear HB; have HO_330000 := n0_; have HO_338000 := n1_; have HO351 := n2_; have HO354 := n3_; have BK329 := n4_; have BK337 := n5_; have BK356 := n6_; have HB := n7_; clear n0_ n1_ n2_ n3_ n4_ n5_ n6_ n7_; (try clear hb); (try clear hb2); (try clear hk); (try clear hi)))
                          go_meet
                          case rel => exact ⟨_, (true), (by first | rfl | (simp; done) | (simp [*]; done)), H', ⟨by have := HJ8.out; have := HJ43.out; first | omega | exact Nat.le_refl _⟩, ⟨by (with_reducible repeat (first | apply Kd.R_alloc | apply Kd.R_drewN | apply Kd.R_drew)); exact Kd.R_mono HO_330000.out (fun _ hk => ⟨hk.1.1.1.1.1, ⟨hk.1.1.2, ⟨hk.1.1.1.1.2.1, ⟨hk.1.1.1.1.2.2.1, ⟨hk.1.1.1.1.2.2.2.1, ⟨hk.1.1.1.1.2.2.2.2, ⟨hk.1.1.1.2, hk.1.2⟩⟩⟩⟩⟩⟩⟩)⟩, ⟨by (with_reducible repeat (first | apply Kd.R_alloc | apply Kd.R_drewN | apply Kd.R_drew)); exact Kd.R_mono HO_338000.out (fun _ hk => ⟨hk.1.1.1.1.1, ⟨hk.1.1.2, ⟨hk.1.1.1.1.2.1, ⟨hk.1.1.1.1.2.2, ⟨hk.1.1.1.2, hk.1.2⟩⟩⟩⟩⟩)⟩, ⟨by (with_reducible repeat (first | apply Kd.R_alloc | apply Kd.R_drewN | apply Kd.R_drew)); exact Kd.R_mono HO354.out (fun _ hk => ⟨hk.1.1.2, ⟨hk.1.2, hk.1.1.1.2⟩⟩)⟩, ⟨by (with_reducible repeat (first | refine blk_drewN ?_ _ | refine blk_drew ?_ | refine blk_alloc ?_ _)); exact BK329.out⟩, ⟨by (with_reducible repeat (first | refine blk_drewN ?_ _ | refine blk_drew ?_ | refine blk_alloc ?_ _)); exact BK337.out⟩, ⟨by (with_reducible repeat (first | refine blk_drewN ?_ _ | refine blk_drew ?_ | refine blk_alloc ?_ _)); exact BK356.out⟩, ⟨by repeat (first | (with_reducible first | exact HB.out | apply below_alloc | apply pw_below_drewN | apply below_drew1 | refine below_set ?_ GE329.out | refine below_set ?_ GE337.out | refine below_set ?_ GE356.out) | exact HB.out)⟩⟩
                      case rest =>
                        clear HC74
                        try clear c1
                        try clear c2
                        try clear p2
                        try clear c3
                        try clear c4
                        try clear c4b0
                        try clear c5
                        try clear c6
                        try clear c7
                        try clear c8
                        try clear c9
                        try clear c10
                        try clear c11
                        try clear c14
                        try clear c15
                        try clear c16
                        try clear c17
                        try clear c18
                        try clear c19
                        try clear c25
                        try clear c28
                        try clear c29
                        try clear c34
                        try clear c39
                        try clear c42
                        try clear c49
                        try clear c49b0
                        try clear c51
                        try clear c52
                        try clear c57
                        try clear c62
                        try clear c65
                        try clear c65b0
                        try clear c66
                        try clear c71
                        try clear c71b0
                        try clear c71b1
                        try clear c75
                        try clear c87
                        try clear c88
                        try clear c91
                        try clear c92
                        try clear c93
                        try clear c95
                        try clear c99
                        try clear c100
                        try clear c102
                        try clear hcz101_0
                        try clear hcz103_0
                        try clear hcz17_0
                        try clear hcz26_0
                        try clear hcz30_0
                        try clear hcz31_0
                        try clear hcz35_0
                        try clear hcz36_0
                        try clear hcz53_0
                        try clear hcz54_0
                        try clear hcz58_0
                        try clear hcz59_0
                        try clear hcz67_0
                        try clear hcz69_0
                        try clear hcz76_0
                        try clear hcz78_0
                        try clear hcz89_0
                        try clear hcz94_0
                        try clear hcz96_0
                        try clear hfz101_0
                        try clear hfz103_0
                        try clear hfz17_0
                        try clear hfz26_0
                        try clear hfz30_0
                        try clear hfz31_0
                        try clear hfz35_0
                        try clear hfz36_0
                        try clear hfz53_0
                        try clear hfz54_0
                        try clear hfz58_0
                        try clear hfz59_0
                        try clear hfz67_0
                        try clear hfz69_0
                        try clear hfz76_0
                        try clear hfz78_0
                        try clear hfz89_0
                        try clear hfz94_0
                        try clear hfz96_0
                        try clear p2
                        obtain ⟨kq, x92_73, rfl, HA, HJ73, HO_330000, HO_338000, HO_357000, BK329, BK337, BK356, HB⟩ := hcut
                        have hl338000_73 := (Kd.R_reads' HO_338000.out).1
                        rw [hl338000_73] at HO_338000
                        (try simp only [hl338000_73])
                        (try simp only [hl338000_73] at BK329)
                        (try simp only [hl338000_73] at BK337)
                        (try simp only [hl338000_73] at BK356)
                        (try simp only [hl338000_73] at HO_330000)
                        (try simp only [hl338000_73] at HO_357000)
                        cases kq with
                        | zero => exact absurd HA.out (by simp [laws_FnExactFromCovers.j2])
                        | succ kj73 =>
                          have H := HA.out
                          clear HA
                          simp only [laws_FnExactFromCovers.j2] at H
                          by_cases c106 : x92_73 = true
                          · subst c106
                            have H1 : (some false) = some r := by rw [if_pos rfl] at H; exact H
                            clear H
                            have H := H1
                            clear H1
                            obtain rfl := Option.some.inj H
                            go_wp2
                            go_ret
                            exact ⟨by first | rfl | (simp [errW_none, errW_some] <;> rfl) | (simp [*, errW_none, errW_some] <;> rfl), by repeat (first | (with_reducible first | exact HB.out | apply below_alloc | apply pw_below_drewN | apply below_drew1 | refine below_set ?_ GE329.out | refine below_set ?_ GE337.out | refine below_set ?_ GE356.out) | exact HB.out)⟩
                          · replace c106 := Bool.eq_false_iff.mpr c106
                            subst c106
                            have H1 : ((laws_heldPoset.f kj73 t347 1).bind fun t358 => (if t358 < 0 then (some false) else (if t358 = t346 then (some true) else (some false)))) = some r := by rw [if_neg (show ¬ (false = true) by decide)] at H; exact H
                            clear H
                            have H := H1
                            clear H1
                            replace H := Option.bind_eq_some_iff.mp H
                            obtain ⟨t358, A1070, H⟩ := H
                            replace H : (if t358 < 0 then (some false) else (if t358 = t346 then (some true) else (some false))) = some r := H
                            have A107 := Aside0.mk A1070
                            clear A1070
                            by_cases c108 : t358 < 0
                            · rw [if_pos c108] at H
                              have c108b0 : decide (t358 < 0) = true := decide_eq_true c108
                              clear c108
                              obtain rfl := Option.some.inj H
                              have hnb109 := NB337_329.out
                              have hnc109 := NB329_337.out
                              have hnb110 := NB337_356.out
                              have hnc110 := NB356_337.out
                              have hcz111_0 : wc.cell? ⟨gb337, 0, none⟩ = some (.slice Ao24 t347.length co24) := (blk_cell BK337.out 0).trans rfl
                              have hfz111_0 := blk_frozen BK337.out 0
                              go_wp2_with (first | ((with_reducible refine gate_callee (f := 11) rfl ?_); refine goesL_ (some 95) rfl rfl Try.func11 (by kernel_rfl) rfl #[.agg #[.slice Ao24 t347.length co24], .int .i64 1] rfl (by (try simp only [List.map_toArray, List.map_cons, List.map_nil]); first | done | rfl | (simp only [List.length_drop, List.length_take]; rfl)) ?_; (with_reducible refine (laws_heldPoset.calls kj73 _ _ t347 1 t358 _ ?side1 ?side2 A107.out).mono ?_); (case side1 => repeat (first | exact (Kd.R_reads' HO_338000.out).2.2 | (with_reducible refine Kd.C_alloc ?_ _) | (with_reducible refine Kd.C_drewN ?_ _) | (with_reducible refine Kd.C_drew ?_))); (case side2 => exact (Kd.R_reads' HO_338000.out).2.1); rintro e w112 ⟨rfl, hb⟩; refine ⟨_, rfl, ?_⟩; have n0_ := Aside0.mk (Kd.R_below (by (with_reducible repeat (first | apply Kd.R_alloc | apply Kd.R_drewN | apply Kd.R_drew)); exact HO_330000.out) hb); have n1_ := Aside0.mk (Kd.R_below (by (with_reducible repeat (first | apply Kd.R_alloc | apply Kd.R_drewN | apply Kd.R_drew)); exact HO_338000.out) hb); have n2_ := Aside0.mk (Kd.R_below (by (with_reducible repeat (first | apply Kd.R_alloc | apply Kd.R_drewN | apply Kd.R_drew)); exact HO_357000.out) hb); have n3_ := Aside0.mk (blk_below (g := gb329) (o := .cells #[.slice Ao16 t325.length co16] 24 (0, 0)) (by (with_reducible repeat (first | refine blk_drewN ?_ _ | refine blk_drew ?_ | refine blk_alloc ?_ _)); exact BK329.out) hb); have n4_ := Aside0.mk (blk_below (g := gb337) (o := .cells #[.slice Ao24 t347.length co24] 24 (0, 0)) (by (with_reducible repeat (first | refine blk_drewN ?_ _ | refine blk_drew ?_ | refine blk_alloc ?_ _)); exact BK337.out) hb); have n5_ := Aside0.mk (blk_below (g := gb356) (o := .cells #[.slice Ao86 t352.length co86] 24 (0, 0)) (by (with_reducible repeat (first | refine blk_drewN ?_ _ | refine blk_drew ?_ | refine blk_alloc ?_ _)); exact BK356.out) hb); have n6_ := Aside0.mk (below_step (by repeat (first | (with_reducible first | exact HB.out | apply below_alloc | apply pw_below_drewN | apply below_drew1 | refine below_set ?_ GE329.out | refine below_set ?_ GE337.out | refine below_set ?_ GE356.out) | exact HB.out)) hb); clear HO_330000; clear HO_338000; clear HO_357000; clear BK329; clear BK337; clear BK356; clear HB; have HO_330000 := n0_; have HO_338000 := n1_; have HO_357000 := n2_; have BK329 := n3_; have BK337 := n4_; have BK356 := n5_; have HB := n6_; clear n0_ n1_ n2_ n3_ n4_ n5_ n6_; (try clear hb); (try clear hb2); (try clear hk); (try clear hi)))
                              go_ret
                              exact ⟨by first | rfl | (simp [errW_none, errW_some] <;> rfl) | (simp [*, errW_none, errW_some] <;> rfl), by repeat (first | (with_reducible first | exact HB.out | apply below_alloc | apply pw_below_drewN | apply below_drew1 | refine below_set ?_ GE329.out | refine below_set ?_ GE337.out | refine below_set ?_ GE356.out) | exact HB.out)⟩
                            · rw [if_neg c108] at H
                              have c108b0 : decide (t358 < 0) = false := decide_eq_false c108
                              clear c108
                              by_cases c113 : t358 = t346
                              · rw [if_pos c113] at H
                                have c113b0 : (t358 == t346) = true := beq_iff_eq.mpr c113
                                have c113b1 : (t358 != t346) = false := bne_eq_false_iff_eq.mpr c113
                                clear c113
                                obtain rfl := Option.some.inj H
                                have hnb114 := NB337_329.out
                                have hnc114 := NB329_337.out
                                have hnb115 := NB337_356.out
                                have hnc115 := NB356_337.out
                                have hcz116_0 : wc.cell? ⟨gb337, 0, none⟩ = some (.slice Ao24 t347.length co24) := (blk_cell BK337.out 0).trans rfl
                                have hfz116_0 := blk_frozen BK337.out 0
                                go_wp2_with (first | ((with_reducible refine gate_callee (f := 11) rfl ?_); refine goesL_ (some 95) rfl rfl Try.func11 (by kernel_rfl) rfl #[.agg #[.slice Ao24 t347.length co24], .int .i64 1] rfl (by (try simp only [List.map_toArray, List.map_cons, List.map_nil]); first | done | rfl | (simp only [List.length_drop, List.length_take]; rfl)) ?_; (with_reducible refine (laws_heldPoset.calls kj73 _ _ t347 1 t358 _ ?side1 ?side2 A107.out).mono ?_); (case side1 => repeat (first | exact (Kd.R_reads' HO_338000.out).2.2 | (with_reducible refine Kd.C_alloc ?_ _) | (with_reducible refine Kd.C_drewN ?_ _) | (with_reducible refine Kd.C_drew ?_))); (case side2 => exact (Kd.R_reads' HO_338000.out).2.1); rintro e w117 ⟨rfl, hb⟩; refine ⟨_, rfl, ?_⟩; have n0_ := Aside0.mk (Kd.R_below (by (with_reducible repeat (first | apply Kd.R_alloc | apply Kd.R_drewN | apply Kd.R_drew)); exact HO_330000.out) hb); have n1_ := Aside0.mk (Kd.R_below (by (with_reducible repeat (first | apply Kd.R_alloc | apply Kd.R_drewN | apply Kd.R_drew)); exact HO_338000.out) hb); have n2_ := Aside0.mk (Kd.R_below (by (with_reducible repeat (first | apply Kd.R_alloc | apply Kd.R_drewN | apply Kd.R_drew)); exact HO_357000.out) hb); have n3_ := Aside0.mk (blk_below (g := gb329) (o := .cells #[.slice Ao16 t325.length co16] 24 (0, 0)) (by (with_reducible repeat (first | refine blk_drewN ?_ _ | refine blk_drew ?_ | refine blk_alloc ?_ _)); exact BK329.out) hb); have n4_ := Aside0.mk (blk_below (g := gb337) (o := .cells #[.slice Ao24 t347.length co24] 24 (0, 0)) (by (with_reducible repeat (first | refine blk_drewN ?_ _ | refine blk_drew ?_ | refine blk_alloc ?_ _)); exact BK337.out) hb); have n5_ := Aside0.mk (blk_below (g := gb356) (o := .cells #[.slice Ao86 t352.length co86] 24 (0, 0)) (by (with_reducible repeat (first | refine blk_drewN ?_ _ | refine blk_drew ?_ | refine blk_alloc ?_ _)); exact BK356.out) hb); have n6_ := Aside0.mk (below_step (by repeat (first | (with_reducible first | exact HB.out | apply below_alloc | apply pw_below_drewN | apply below_drew1 | refine below_set ?_ GE329.out | refine below_set ?_ GE337.out | refine below_set ?_ GE356.out) | exact HB.out)) hb); clear HO_330000; clear HO_338000; clear HO_357000; clear BK329; clear BK337; clear BK356; clear HB; have HO_330000 := n0_; have HO_338000 := n1_; have HO_357000 := n2_; have BK329 := n3_; have BK337 := n4_; have BK356 := n5_; have HB := n6_; clear n0_ n1_ n2_ n3_ n4_ n5_ n6_; (try clear hb); (try clear hb2); (try clear hk); (try clear hi)))
                                go_ret
                                exact ⟨by first | rfl | (simp [errW_none, errW_some] <;> rfl) | (simp [*, errW_none, errW_some] <;> rfl), by repeat (first | (with_reducible first | exact HB.out | apply below_alloc | apply pw_below_drewN | apply below_drew1 | refine below_set ?_ GE329.out | refine below_set ?_ GE337.out | refine below_set ?_ GE356.out) | exact HB.out)⟩
                              · rw [if_neg c113] at H
                                have c113b0 : (t358 == t346) = false := beq_eq_false_iff_ne.mpr c113
                                have c113b1 : (t358 != t346) = true := bne_iff_ne.mpr c113
                                obtain rfl := Option.some.inj H
                                have hnb118 := NB337_329.out
                                have hnc118 := NB329_337.out
                                have hnb119 := NB337_356.out
                                have hnc119 := NB356_337.out
                                have hcz120_0 : wc.cell? ⟨gb337, 0, none⟩ = some (.slice Ao24 t347.length co24) := (blk_cell BK337.out 0).trans rfl
                                have hfz120_0 := blk_frozen BK337.out 0
                                go_wp2_with (first | ((with_reducible refine gate_callee (f := 11) rfl ?_); refine goesL_ (some 95) rfl rfl Try.func11 (by kernel_rfl) rfl #[.agg #[.slice Ao24 t347.length co24], .int .i64 1] rfl (by (try simp only [List.map_toArray, List.map_cons, List.map_nil]); first | done | rfl | (simp only [List.length_drop, List.length_take]; rfl)) ?_; (with_reducible refine (laws_heldPoset.calls kj73 _ _ t347 1 t358 _ ?side1 ?side2 A107.out).mono ?_); (case side1 => repeat (first | exact (Kd.R_reads' HO_338000.out).2.2 | (with_reducible refine Kd.C_alloc ?_ _) | (with_reducible refine Kd.C_drewN ?_ _) | (with_reducible refine Kd.C_drew ?_))); (case side2 => exact (Kd.R_reads' HO_338000.out).2.1); rintro e w121 ⟨rfl, hb⟩; refine ⟨_, rfl, ?_⟩; have n0_ := Aside0.mk (Kd.R_below (by (with_reducible repeat (first | apply Kd.R_alloc | apply Kd.R_drewN | apply Kd.R_drew)); exact HO_330000.out) hb); have n1_ := Aside0.mk (Kd.R_below (by (with_reducible repeat (first | apply Kd.R_alloc | apply Kd.R_drewN | apply Kd.R_drew)); exact HO_338000.out) hb); have n2_ := Aside0.mk (Kd.R_below (by (with_reducible repeat (first | apply Kd.R_alloc | apply Kd.R_drewN | apply Kd.R_drew)); exact HO_357000.out) hb); have n3_ := Aside0.mk (blk_below (g := gb329) (o := .cells #[.slice Ao16 t325.length co16] 24 (0, 0)) (by (with_reducible repeat (first | refine blk_drewN ?_ _ | refine blk_drew ?_ | refine blk_alloc ?_ _)); exact BK329.out) hb); have n4_ := Aside0.mk (blk_below (g := gb337) (o := .cells #[.slice Ao24 t347.length co24] 24 (0, 0)) (by (with_reducible repeat (first | refine blk_drewN ?_ _ | refine blk_drew ?_ | refine blk_alloc ?_ _)); exact BK337.out) hb); have n5_ := Aside0.mk (blk_below (g := gb356) (o := .cells #[.slice Ao86 t352.length co86] 24 (0, 0)) (by (with_reducible repeat (first | refine blk_drewN ?_ _ | refine blk_drew ?_ | refine blk_alloc ?_ _)); exact BK356.out) hb); have n6_ := Aside0.mk (below_step (by repeat (first | (with_reducible first | exact HB.out | apply below_alloc | apply pw_below_drewN | apply below_drew1 | refine below_set ?_ GE329.out | refine below_set ?_ GE337.out | refine below_set ?_ GE356.out) | exact HB.out)) hb); clear HO_330000; clear HO_338000; clear HO_357000; clear BK329; clear BK337; clear BK356; clear HB; have HO_330000 := n0_; have HO_338000 := n1_; have HO_357000 := n2_; have BK329 := n3_; have BK337 := n4_; have BK356 := n5_; have HB := n6_; clear n0_ n1_ n2_ n3_ n4_ n5_ n6_; (try clear hb); (try clear hb2); (try clear hk); (try clear hi)))
                                go_ret
                                exact ⟨by first | rfl | (simp [errW_none, errW_some] <;> rfl) | (simp [*, errW_none, errW_some] <;> rfl), by repeat (first | (with_reducible first | exact HB.out | apply below_alloc | apply pw_below_drewN | apply below_drew1 | refine below_set ?_ GE329.out | refine below_set ?_ GE337.out | refine below_set ?_ GE356.out) | exact HB.out)⟩
                    · rw [if_neg c71] at H
                      have c71b0 : (t348 == t346) = false := beq_eq_false_iff_ne.mpr c71
                      have c71b1 : (t348 != t346) = true := bne_iff_ne.mpr c71
                      obtain rfl := Option.some.inj H
                      have hnb122 := NB337_329.out
                      have hnc122 := NB329_337.out
                      have hcz123_0 : wc.cell? ⟨gb337, 0, none⟩ = some (.slice Ao24 t333.length co24) := (blk_cell BK337.out 0).trans rfl
                      have hfz123_0 := blk_frozen BK337.out 0
                      go_wp2_with (first | ((with_reducible refine gate_callee (f := 10) rfl ?_); refine goesL_ (some 68) rfl rfl Try.func10 (by kernel_rfl) rfl #[.agg #[.slice Ao24 t333.length co24], .int .i64 1] rfl (by (try simp only [List.map_toArray, List.map_cons, List.map_nil]); first | done | rfl | (simp only [List.length_drop, List.length_take]; rfl)) ?_; (with_reducible refine (laws_markPoset.calls kj43 (fun k_ => some k_ = (.slice Ao24 t333.length co24 : Value).ownBlock) (.slice Ao24 t333.length co24) t333 1 t346 t347 w _ ?side1 ?side2 A63.out).mono ?_); (case side1 => repeat (first | (with_reducible first | exact HB.out | apply below_alloc | apply pw_below_drewN | apply below_drew1 | refine below_set ?_ GE329.out | refine below_set ?_ GE337.out) | exact HB.out)); (case side2 => exact Kd.R_tight rfl HO_338000.out); rintro e w124 ⟨rfl, hy0, hb, hkp⟩; refine ⟨_, rfl, ?_⟩; have n0_ := Aside0.mk (Kd.R_mono (ok' := fun k_ => some k_ ≠ (.slice Ao24 t333.length co24 : Value).ownBlock ∧ N14 ≤ k_ ∧ k_ < N19 ∧ k_ < N22 ∧ k_ < N46) (Kd.R_keptB (HO_330000.out) hkp (fun k_ hk_ hs_ => (hk_.1) hs_)) (fun k_ hk_ => ⟨hk_.1.1, hk_.1.2.1, hk_.1.2.2.1, hk_.1.2.2.2.1, hk_.1.2.2.2.2⟩)); have n1_ := Aside0.mk (Kd.R_reok rfl hy0 (fun k_ e_ => HO_338000.out.1 k_ e_)); have n2_ := Aside0.mk (blk_kept (by (with_reducible repeat (first | refine blk_drewN ?_ _ | refine blk_drew ?_ | refine blk_alloc ?_ _)); exact BK329.out) hkp (fun hs_ => (fun e_ => (Kd.R_ne HO_338000.out BK329.out (by decide)) e_) hs_)); have n3_ := Aside0.mk (blk_kept (by (with_reducible repeat (first | refine blk_drewN ?_ _ | refine blk_drew ?_ | refine blk_alloc ?_ _)); exact BK337.out) hkp (fun hs_ => (fun e_ => (Kd.R_ne HO_338000.out BK337.out (by decide)) e_) hs_)); have n4_ := Aside0.mk (hb); clear HO_330000; clear HO_338000; clear BK329; clear BK337; clear HB; have HO_330000 := n0_; have HO_338000 := n1_; have BK329 := n2_; have BK337 := n3_; have HB := n4_; clear n0_ n1_ n2_ n3_ n4_; (try clear hb); (try clear hkp); (try clear hy0); have hcz125_0 : w124.cell? ⟨gb337, 0, none⟩ = some (.slice Ao24 t333.length co24) := (blk_cell BK337.out 0).trans rfl; have hfz125_0 := blk_frozen BK337.out 0) | ((with_reducible refine gate_callee (f := 11) rfl ?_); refine goesL_ (some 71) rfl rfl Try.func11 (by kernel_rfl) rfl #[.agg #[.slice Ao24 t347.length co24], .int .i64 1] rfl (by (try simp only [List.map_toArray, List.map_cons, List.map_nil]); first | done | (rw [show t347.length = t333.length from (Kd.R_reads' HO_338000.out).1.symm] <;> rfl) | rfl | (simp only [List.length_drop, List.length_take]; rfl)) ?_; (with_reducible refine (laws_heldPoset.calls kj43 _ _ t347 1 t348 _ ?side1 ?side2 A64.out).mono ?_); (case side1 => repeat (first | exact (Kd.R_reads' HO_338000.out).2.2 | (with_reducible refine Kd.C_alloc ?_ _) | (with_reducible refine Kd.C_drewN ?_ _) | (with_reducible refine Kd.C_drew ?_))); (case side2 => rw [show t347.length = t333.length from (Kd.R_reads' HO_338000.out).1.symm]; exact (Kd.R_reads' HO_338000.out).2.1); rintro e w126 ⟨rfl, hb⟩; refine ⟨_, rfl, ?_⟩; have n0_ := Aside0.mk (Kd.R_below (by (with_reducible repeat (first | apply Kd.R_alloc | apply Kd.R_drewN | apply Kd.R_drew)); exact HO_330000.out) hb); have n1_ := Aside0.mk (Kd.R_below (by (with_reducible repeat (first | apply Kd.R_alloc | apply Kd.R_drewN | apply Kd.R_drew)); exact HO_338000.out) hb); have n2_ := Aside0.mk (blk_below (g := gb329) (o := .cells #[.slice Ao16 t325.length co16] 24 (0, 0)) (by (with_reducible repeat (first | refine blk_drewN ?_ _ | refine blk_drew ?_ | refine blk_alloc ?_ _)); exact BK329.out) hb); have n3_ := Aside0.mk (blk_below (g := gb337) (o := .cells #[.slice Ao24 t333.length co24] 24 (0, 0)) (by (with_reducible repeat (first | refine blk_drewN ?_ _ | refine blk_drew ?_ | refine blk_alloc ?_ _)); exact BK337.out) hb); have n4_ := Aside0.mk (below_step (by repeat (first | (with_reducible first | exact HB.out | apply below_alloc | apply pw_below_drewN | apply below_drew1 | refine below_set ?_ GE329.out | refine below_set ?_ GE337.out) | exact HB.out)) hb); clear HO_330000; clear HO_338000; clear BK329; clear BK337; clear HB; have HO_330000 := n0_; have HO_338000 := n1_; have BK329 := n2_; have BK337 := n3_; have HB := n4_; clear n0_ n1_ n2_ n3_ n4_; (try clear hb); (try clear hb2); (try clear hk); (try clear hi)))
                      go_ret
                      exact ⟨by first | rfl | (simp [errW_none, errW_some] <;> rfl) | (simp [*, errW_none, errW_some] <;> rfl), by repeat (first | (with_reducible first | exact HB.out | apply below_alloc | apply pw_below_drewN | apply below_drew1 | refine below_set ?_ GE329.out | refine below_set ?_ GE337.out) | exact HB.out)⟩
          · replace c42 := Bool.eq_false_iff.mpr c42
            subst c42
            have H1 : (some false) = some r := by rw [if_neg (show ¬ (false = true) by decide)] at H; exact H
            clear H
            have H := H1
            clear H1
            obtain rfl := Option.some.inj H
            go_wp2_with (first | ((with_reducible refine gate_callee (f := 16) rfl ?_); refine goesL_ (some 47) rfl rfl Try.func16 (by kernel_rfl) rfl #[.slice A1 l1.length c1] rfl (by (try simp only [List.map_toArray, List.map_cons, List.map_nil]); first | done | rfl | (simp only [List.length_drop, List.length_take]; rfl)) ?_; (with_reducible refine (laws_toIntSS.calls kj8 _ _ l1 t339 _ ?side1 ?side2 A40.out).mono ?_); (case side1 => repeat (first | exact (Kd.C_below HR1.out HB.out) | (with_reducible refine Kd.C_alloc ?_ _) | (with_reducible refine Kd.C_drewN ?_ _) | (with_reducible refine Kd.C_drew ?_))); (case side2 => exact HC1.out); rintro e w127 ⟨v340, rfl, ho0, hb⟩; refine ⟨_, rfl, ?_⟩; obtain ⟨N128, hN128⟩ := num_of hb; replace hN128 := Aside0.mk hN128; have n0_ := Aside0.mk (Kd.S_numE hN128.out (Kd.S_told (Kd.S_old (by (with_reducible repeat (first | apply Kd.S_alloc | apply Kd.S_drewN | apply Kd.S_drew)); exact HO_8.out) hb) (Kd.S_base ho0))); have n1_ := Aside0.mk (Kd.R_numE hN128.out (Kd.R_old (by (with_reducible repeat (first | apply Kd.R_alloc | apply Kd.R_drewN | apply Kd.R_drew)); exact HO_330000.out) hb)); have n2_ := Aside0.mk (Kd.R_numE hN128.out (Kd.R_old (by (with_reducible repeat (first | apply Kd.R_alloc | apply Kd.R_drewN | apply Kd.R_drew)); exact HO_338000.out) hb)); have n3_ := Aside0.mk (Kd.S_lower (Kd.S_new' (Kd.S_new' (Kd.S_new' (Kd.S_numN hN128.out ho0) (Kd.S_lt (by (with_reducible repeat (first | apply Kd.S_alloc | apply Kd.S_drewN | apply Kd.S_drew)); exact HO_8.out))) (Kd.R_lt (by (with_reducible repeat (first | apply Kd.R_alloc | apply Kd.R_drewN | apply Kd.R_drew)); exact HO_330000.out))) (Kd.R_lt (by (with_reducible repeat (first | apply Kd.R_alloc | apply Kd.R_drewN | apply Kd.R_drew)); exact HO_338000.out))) (below_size (by repeat (first | (with_reducible first | exact HB.out | apply below_alloc | apply pw_below_drewN | apply below_drew1 | refine below_set ?_ GE329.out | refine below_set ?_ GE337.out) | exact HB.out)))); have n4_ := Aside0.mk (blk_below (g := gb329) (o := .cells #[.slice Ao16 t325.length co16] 24 (0, 0)) (by (with_reducible repeat (first | refine blk_drewN ?_ _ | refine blk_drew ?_ | refine blk_alloc ?_ _)); exact BK329.out) hb); have n5_ := Aside0.mk (blk_below (g := gb337) (o := .cells #[.slice Ao24 t333.length co24] 24 (0, 0)) (by (with_reducible repeat (first | refine blk_drewN ?_ _ | refine blk_drew ?_ | refine blk_alloc ?_ _)); exact BK337.out) hb); have n6_ := Aside0.mk (below_step (by repeat (first | (with_reducible first | exact HB.out | apply below_alloc | apply pw_below_drewN | apply below_drew1 | refine below_set ?_ GE329.out | refine below_set ?_ GE337.out) | exact HB.out)) hb); clear HO_8; clear HO_330000; clear HO_338000; clear BK329; clear BK337; clear HB; have HO_8 := n0_; have HO_330000 := n1_; have HO_338000 := n2_; have HO341 := n3_; have BK329 := n4_; have BK337 := n5_; have HB := n6_; clear n0_ n1_ n2_ n3_ n4_ n5_ n6_; (try clear hb); (try clear hb2); (try clear hk); (try clear hi); (try clear ho0); obtain ⟨Ao129, co129, eo129⟩ := Kd.S_slice HO341.out; subst eo129) | ((with_reducible refine gate_callee (f := 18) rfl ?_); refine goesL_ (some 48) rfl rfl Try.func18 (by kernel_rfl) rfl #[.slice Ao20 t330.length co20, .slice Ao129 t339.length co129] rfl (by (try simp only [List.map_toArray, List.map_cons, List.map_nil]); first | done | rfl | (simp only [List.length_drop, List.length_take]; rfl)) ?_; (with_reducible refine (laws_eqIntSS.calls kj8 _ _ t330 _ _ t339 false _ ?side1 ?side2 ?side3 ?side4 A41.out).mono ?_); (case side1 => repeat (first | exact (Kd.S_reads' HO_8.out).2.2 | (with_reducible refine Kd.C_alloc ?_ _) | (with_reducible refine Kd.C_drewN ?_ _) | (with_reducible refine Kd.C_drew ?_))); (case side2 => exact (Kd.S_reads' HO_8.out).2.1); (case side3 => repeat (first | exact (Kd.S_reads' HO341.out).2.2 | (with_reducible refine Kd.C_alloc ?_ _) | (with_reducible refine Kd.C_drewN ?_ _) | (with_reducible refine Kd.C_drew ?_))); (case side4 => exact (Kd.S_reads' HO341.out).2.1); rintro e w' ⟨rfl, ⟨nd, rfl⟩⟩; refine ⟨_, rfl, ?_⟩))
            go_ret
            exact ⟨by first | rfl | (simp [errW_none, errW_some] <;> rfl) | (simp [*, errW_none, errW_some] <;> rfl), by repeat (first | (with_reducible first | exact HB.out | apply below_alloc | apply pw_below_drewN | apply below_drew1 | refine below_set ?_ GE329.out | refine below_set ?_ GE337.out) | exact HB.out)⟩

end Go.Proofs.Ytkikpkfambagnaa.B
