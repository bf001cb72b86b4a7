/- The walk of laws_FnExactStackOf: what it computes, as a function, and its tables. -/
import Derived.Test.YtpfolfplebpeaaaB0
import Derived.Test.YtpfolfplebpeaaaB1
import Derived.Test.YtpfolfplebpeaaaB4
import Derived.Test.YtpfolfplebpeaaaB5
namespace Go.Proofs.Ytpfolfplebpeaaa.B
open Go.RowKit Go.Proofs.YtpfolfplebpeaaaW.PrintWords Go.Proofs.YtpfolfplebpeaaaW.PrintLast Go.Proofs.YtpfolfplebpeaaaW.PrintMore
attribute [local go_sem] max2_int min2_int max_two min_two max_three min_three max_four min_four   -- for this text's walks alone
set_option linter.unusedVariables false
set_option linter.unusedSimpArgs false

/-! ### laws_FnExactStackOf: function 4 -/
mutual
def laws_FnExactStackOf.j0 : Nat → Bool → Bool → Bool → List Int → List Int → List Int → List Int → List Int → List Int → Option (Bool)
 | 0, _, _, _, _, _, _, _, _, _ => none
 | k + 1, x7, x11, x53, x274000, x275000, x288000, x292000, x296000, x301000 => if x53 = true then (some false) else ((laws_toPoset.f k x274000).bind fun t302 => ((laws_eqPoset.f k x292000 t302).bind fun t305 => (if t305 = true then ((laws_toPoset.f k x275000).bind fun t306 => ((laws_eqPoset.f k x296000 t306).bind fun t309 => (if t309 = true then ((laws_markPoset.f k x292000 1).bind fun bt310 => ((laws_markPoset.f k x296000 bt310.1).bind fun bt312 => (if bt312.1 < 0 then (laws_FnExactStackOf.j1 k x7 true x274000 x275000 x288000 x301000) else ((laws_eqPoset.f k x301000 x288000).bind fun t314 => (if t314 = true then (laws_FnExactStackOf.j1 k x7 (x11 != x7) x274000 x275000 x288000 x301000) else (laws_FnExactStackOf.j1 k x7 true x274000 x275000 x288000 x301000)))))) else (some false)))) else (some false))))
def laws_FnExactStackOf.j1 : Nat → Bool → Bool → List Int → List Int → List Int → List Int → Option (Bool)
 | 0, _, _, _, _, _, _ => none
 | k + 1, x7, x82, x274000, x275000, x288000, x301000 => if x82 = true then (some false) else ((laws_markPoset.f k x301000 1).bind fun bt315 => ((laws_heldPoset.f k bt315.2 1).bind fun t317 => (if t317 < 0 then (some false) else (if t317 = bt315.1 then ((laws_toPoset.f k x274000).bind fun t318 => ((laws_toPoset.f k x275000).bind fun t321 => ((impl_StackOf.f k t318 t321).bind fun bt324 => ((laws_eqPoset.f k bt324.1 x288000).bind fun t329 => (if t329 = true then (laws_FnExactStackOf.j2 k bt315.1 (bt324.2 != x7) bt315.2) else (laws_FnExactStackOf.j2 k bt315.1 true bt315.2)))))) else (some false)))))
def laws_FnExactStackOf.j2 : Nat → Int → Bool → List Int → Option (Bool)
 | 0, _, _, _ => none
 | k + 1, x13, x110, x301000 => if x110 = true then (some false) else ((laws_heldPoset.f k x301000 1).bind fun t330 => (if t330 < 0 then (some false) else (if t330 = x13 then (some true) else (some false))))
end
def laws_FnExactStackOf.f (k : Nat) (l0_0 : List Int) (l1_0 : List Int) : Option (Bool) := (laws_szPoset.f l0_0 1048576).bind fun t275 => (if t275 < 0 then (some true) else ((laws_szPoset.f l1_0 t275).bind fun t276 => (if t276 < 0 then (some true) else ((laws_toPoset.f k l0_0).bind fun t277 => ((laws_toPoset.f k l1_0).bind fun t280 => ((spec_StackOf.f k t277 t280).bind fun bt283 => ((laws_toPoset.f k l0_0).bind fun t288 => ((laws_toPoset.f k l1_0).bind fun t292 => ((impl_StackOf.f k t288 t292).bind fun bt296 => ((laws_eqPoset.f k bt296.1 bt283.1).bind fun t301 => (if t301 = true then (laws_FnExactStackOf.j0 k bt283.2 bt296.2 (bt296.2 != bt283.2) l0_0 l1_0 bt283.1 t288 t292 bt296.1) else (laws_FnExactStackOf.j0 k bt283.2 bt296.2 true l0_0 l1_0 bt283.1 t288 t292 bt296.1))))))))))))
theorem laws_FnExactStackOf.mono_l : ∀ k, (∀ y0 y1 y2 y3 y4 y5 y6 y7 y8, LeO (laws_FnExactStackOf.j0 k y0 y1 y2 y3 y4 y5 y6 y7 y8) (laws_FnExactStackOf.j0 (k + 1) y0 y1 y2 y3 y4 y5 y6 y7 y8)) ∧ (∀ y0 y1 y2 y3 y4 y5, LeO (laws_FnExactStackOf.j1 k y0 y1 y2 y3 y4 y5) (laws_FnExactStackOf.j1 (k + 1) y0 y1 y2 y3 y4 y5)) ∧ (∀ y0 y1 y2, LeO (laws_FnExactStackOf.j2 k y0 y1 y2) (laws_FnExactStackOf.j2 (k + 1) y0 y1 y2))
 | 0 => ⟨fun _ _ _ _ _ _ _ _ _ r h => by simp [laws_FnExactStackOf.j0] at h, fun _ _ _ _ _ _ r h => by simp [laws_FnExactStackOf.j1] at h, fun _ _ _ r h => by simp [laws_FnExactStackOf.j2] at h⟩
 | k + 1 => by
  obtain ⟨ih0, ih1, ih2⟩ := laws_FnExactStackOf.mono_l k
  refine ⟨?_, ?_, ?_⟩
  ·intro y0 y1 y2 y3 y4 y5 y6 y7 y8
   unfold laws_FnExactStackOf.j0
   repeat' first
   | (with_reducible exact ih0 _ _ _ _ _ _ _ _ _)
   | (with_reducible exact ih1 _ _ _ _ _ _)
   | (with_reducible exact ih2 _ _ _)
   | (with_reducible exact impl_StackOf.mono _ _ _)
   | (with_reducible exact laws_eqPoset.mono _ _ _)
   | (with_reducible exact laws_heldPoset.mono _ _ _)
   | (with_reducible exact laws_markPoset.mono _ _ _)
   | (with_reducible exact laws_toPoset.mono _ _)
   | (with_reducible exact spec_StackOf.mono _ _ _)
   | (with_reducible exact LeO.refl _)
   | (with_reducible exact LeO.none _)
   | (with_reducible refine LeO.ite ?_ ?_)
   | (with_reducible refine LeO.bind ?_ (fun _ => ?_))
   | exact ih0 _ _ _ _ _ _ _ _ _
   | exact ih1 _ _ _ _ _ _
   | exact ih2 _ _ _
   | exact impl_StackOf.mono _ _ _
   | exact laws_eqPoset.mono _ _ _
   | exact laws_heldPoset.mono _ _ _
   | exact laws_markPoset.mono _ _ _
   | exact laws_toPoset.mono _ _
   | exact spec_StackOf.mono _ _ _
   | exact LeO.none _
   | refine LeO.ite ?_ ?_
   | refine LeO.bind ?_ (fun _ => ?_)
  ·intro y0 y1 y2 y3 y4 y5
   unfold laws_FnExactStackOf.j1
   repeat' first
   | (with_reducible exact ih0 _ _ _ _ _ _ _ _ _)
   | (with_reducible exact ih1 _ _ _ _ _ _)
   | (with_reducible exact ih2 _ _ _)
   | (with_reducible exact impl_StackOf.mono _ _ _)
   | (with_reducible exact laws_eqPoset.mono _ _ _)
   | (with_reducible exact laws_heldPoset.mono _ _ _)
   | (with_reducible exact laws_markPoset.mono _ _ _)
   | (with_reducible exact laws_toPoset.mono _ _)
   | (with_reducible exact spec_StackOf.mono _ _ _)
   | (with_reducible exact LeO.refl _)
   | (with_reducible exact LeO.none _)
   | (with_reducible refine LeO.ite ?_ ?_)
   | (with_reducible refine LeO.bind ?_ (fun _ => ?_))
   | exact ih0 _ _ _ _ _ _ _ _ _
   | exact ih1 _ _ _ _ _ _
   | exact ih2 _ _ _
   | exact impl_StackOf.mono _ _ _
   | exact laws_eqPoset.mono _ _ _
   | exact laws_heldPoset.mono _ _ _
   | exact laws_markPoset.mono _ _ _
   | exact laws_toPoset.mono _ _
   | exact spec_StackOf.mono _ _ _
   | exact LeO.none _
   | refine LeO.ite ?_ ?_
   | refine LeO.bind ?_ (fun _ => ?_)
  ·intro y0 y1 y2
   unfold laws_FnExactStackOf.j2
   repeat' first
   | (with_reducible exact ih0 _ _ _ _ _ _ _ _ _)
   | (with_reducible exact ih1 _ _ _ _ _ _)
   | (with_reducible exact ih2 _ _ _)
   | (with_reducible exact impl_StackOf.mono _ _ _)
   | (with_reducible exact laws_eqPoset.mono _ _ _)
   | (with_reducible exact laws_heldPoset.mono _ _ _)
   | (with_reducible exact laws_markPoset.mono _ _ _)
   | (with_reducible exact laws_toPoset.mono _ _)
   | (with_reducible exact spec_StackOf.mono _ _ _)
   | (with_reducible exact LeO.refl _)
   | (with_reducible exact LeO.none _)
   | (with_reducible refine LeO.ite ?_ ?_)
   | (with_reducible refine LeO.bind ?_ (fun _ => ?_))
   | exact ih0 _ _ _ _ _ _ _ _ _
   | exact ih1 _ _ _ _ _ _
   | exact ih2 _ _ _
   | exact impl_StackOf.mono _ _ _
   | exact laws_eqPoset.mono _ _ _
   | exact laws_heldPoset.mono _ _ _
   | exact laws_markPoset.mono _ _ _
   | exact laws_toPoset.mono _ _
   | exact spec_StackOf.mono _ _ _
   | exact LeO.none _
   | refine LeO.ite ?_ ?_
   | refine LeO.bind ?_ (fun _ => ?_)
theorem laws_FnExactStackOf.mono : ∀ a0 a1 k, LeO (laws_FnExactStackOf.f k a0 a1) (laws_FnExactStackOf.f (k + 1) a0 a1) := by
 intro a0 a1 k
 obtain ⟨ih0, ih1, ih2⟩ := laws_FnExactStackOf.mono_l k
 unfold laws_FnExactStackOf.f
 repeat' first
   | (with_reducible exact ih0 _ _ _ _ _ _ _ _ _)
   | (with_reducible exact ih1 _ _ _ _ _ _)
   | (with_reducible exact ih2 _ _ _)
   | (with_reducible exact impl_StackOf.mono _ _ _)
   | (with_reducible exact laws_eqPoset.mono _ _ _)
   | (with_reducible exact laws_heldPoset.mono _ _ _)
   | (with_reducible exact laws_markPoset.mono _ _ _)
   | (with_reducible exact laws_toPoset.mono _ _)
   | (with_reducible exact spec_StackOf.mono _ _ _)
   | (with_reducible exact LeO.refl _)
   | (with_reducible exact LeO.none _)
   | (with_reducible refine LeO.ite ?_ ?_)
   | (with_reducible refine LeO.bind ?_ (fun _ => ?_))
   | exact ih0 _ _ _ _ _ _ _ _ _
   | exact ih1 _ _ _ _ _ _
   | exact ih2 _ _ _
   | exact impl_StackOf.mono _ _ _
   | exact laws_eqPoset.mono _ _ _
   | exact laws_heldPoset.mono _ _ _
   | exact laws_markPoset.mono _ _ _
   | exact laws_toPoset.mono _ _
   | exact spec_StackOf.mono _ _ _
   | exact LeO.none _
   | refine LeO.ite ?_ ?_
   | refine LeO.bind ?_ (fun _ => ?_)
def laws_FnExactStackOf.T8 : Bool × List (List Nat × List Nat) := (true, [([], []), ([0], [0]), ([], []), ([2, 1], [2]), ([1, 3, 3], [1, 3]), ([4], [4]), ([5], [5]), ([5], [5]), ([], []), ([8, 6, 4, 0, 1, 2, 3, 4, 5, 6, 8], [6, 8]), ([7, 9, 0, 1, 2, 3, 4, 5, 6, 7, 8, 9], [7])])
def laws_FnExactStackOf.B8 : List Nat := [0, 1, 0, 7, 15, 31, 63, 63, 0, 383, 1023]
theorem laws_FnExactStackOf.tab8 : rtab .any (opsOf Try.f4 8) = laws_FnExactStackOf.T8 := by kernel_rfl
theorem laws_FnExactStackOf.bits8 : waitsOk laws_FnExactStackOf.T8.2 laws_FnExactStackOf.B8 = true := by kernel_rfl
def laws_FnExactStackOf.T31 : Bool × List (List Nat × List Nat) := (true, [([], []), ([0], [0]), ([], []), ([2, 1], [2]), ([1, 3, 3], [1, 3]), ([4], [4]), ([5], [5]), ([5], [5]), ([], []), ([8, 6, 4, 0, 1, 2, 3, 4, 5, 6, 8], [6, 8]), ([7, 9, 0, 1, 2, 3, 4, 5, 6, 7, 8, 9], [7])])
def laws_FnExactStackOf.B31 : List Nat := [0, 1, 0, 7, 15, 31, 63, 63, 0, 383, 1023]
theorem laws_FnExactStackOf.tab31 : rtab .any (opsOf Try.f4 31) = laws_FnExactStackOf.T31 := by kernel_rfl
theorem laws_FnExactStackOf.bits31 : waitsOk laws_FnExactStackOf.T31.2 laws_FnExactStackOf.B31 = true := by kernel_rfl
/-- What follows a statement. -/
def laws_FnExactStackOf.cR : Code → Code
 | .seq _ b => b
 | c => c
/-- A sequence's first. -/
def laws_FnExactStackOf.cL : Code → Code
 | .seq a _ => a
 | c => c
/-- What follows the first n statements. -/
def laws_FnExactStackOf.cAt : Code → Nat → Code
 | c, 0 => c
 | c, n + 1 => laws_FnExactStackOf.cAt (laws_FnExactStackOf.cR c) n
end Go.Proofs.Ytpfolfplebpeaaa.B
