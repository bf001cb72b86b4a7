/- The walk of laws_FnExactSumOf: what it computes, as a function, and its tables. -/
import Derived.Test.YtpfolfplebpeaaaB0
import Derived.Test.YtpfolfplebpeaaaB1
import Derived.Test.YtpfolfplebpeaaaB4
import Derived.Test.YtpfolfplebpeaaaB7
namespace Go.Proofs.Ytpfolfplebpeaaa.B
open Go.RowKit Go.Proofs.YtpfolfplebpeaaaW.PrintWords Go.Proofs.YtpfolfplebpeaaaW.PrintLast Go.Proofs.YtpfolfplebpeaaaW.PrintMore
attribute [local go_sem] max2_int min2_int max_two min_two max_three min_three max_four min_four   -- for this text's walks alone
set_option linter.unusedVariables false
set_option linter.unusedSimpArgs false

/-! ### laws_FnExactSumOf: function 3 -/
mutual
def laws_FnExactSumOf.j0 : Nat → Bool → Bool → Bool → List Int → List Int → List Int → List Int → List Int → List Int → Option (Bool)
 | 0, _, _, _, _, _, _, _, _, _ => none
 | k + 1, x7, x11, x53, x198000, x199000, x212000, x216000, x220000, x225000 => if x53 = true then (some false) else ((laws_toPoset.f k x198000).bind fun t226 => ((laws_eqPoset.f k x216000 t226).bind fun t229 => (if t229 = true then ((laws_toPoset.f k x199000).bind fun t230 => ((laws_eqPoset.f k x220000 t230).bind fun t233 => (if t233 = true then ((laws_markPoset.f k x216000 1).bind fun bt234 => ((laws_markPoset.f k x220000 bt234.1).bind fun bt236 => (if bt236.1 < 0 then (laws_FnExactSumOf.j1 k x7 true x198000 x199000 x212000 x225000) else ((laws_eqPoset.f k x225000 x212000).bind fun t238 => (if t238 = true then (laws_FnExactSumOf.j1 k x7 (x11 != x7) x198000 x199000 x212000 x225000) else (laws_FnExactSumOf.j1 k x7 true x198000 x199000 x212000 x225000)))))) else (some false)))) else (some false))))
def laws_FnExactSumOf.j1 : Nat → Bool → Bool → List Int → List Int → List Int → List Int → Option (Bool)
 | 0, _, _, _, _, _, _ => none
 | k + 1, x7, x82, x198000, x199000, x212000, x225000 => if x82 = true then (some false) else ((laws_markPoset.f k x225000 1).bind fun bt239 => ((laws_heldPoset.f k bt239.2 1).bind fun t241 => (if t241 < 0 then (some false) else (if t241 = bt239.1 then ((laws_toPoset.f k x198000).bind fun t242 => ((laws_toPoset.f k x199000).bind fun t245 => ((impl_SumOf.f k t242 t245).bind fun bt248 => ((laws_eqPoset.f k bt248.1 x212000).bind fun t253 => (if t253 = true then (laws_FnExactSumOf.j2 k bt239.1 (bt248.2 != x7) bt239.2) else (laws_FnExactSumOf.j2 k bt239.1 true bt239.2)))))) else (some false)))))
def laws_FnExactSumOf.j2 : Nat → Int → Bool → List Int → Option (Bool)
 | 0, _, _, _ => none
 | k + 1, x13, x110, x225000 => if x110 = true then (some false) else ((laws_heldPoset.f k x225000 1).bind fun t254 => (if t254 < 0 then (some false) else (if t254 = x13 then (some true) else (some false))))
end
def laws_FnExactSumOf.f (k : Nat) (l0_0 : List Int) (l1_0 : List Int) : Option (Bool) := (laws_szPoset.f l0_0 1048576).bind fun t199 => (if t199 < 0 then (some true) else ((laws_szPoset.f l1_0 t199).bind fun t200 => (if t200 < 0 then (some true) else ((laws_toPoset.f k l0_0).bind fun t201 => ((laws_toPoset.f k l1_0).bind fun t204 => ((spec_SumOf.f k t201 t204).bind fun bt207 => ((laws_toPoset.f k l0_0).bind fun t212 => ((laws_toPoset.f k l1_0).bind fun t216 => ((impl_SumOf.f k t212 t216).bind fun bt220 => ((laws_eqPoset.f k bt220.1 bt207.1).bind fun t225 => (if t225 = true then (laws_FnExactSumOf.j0 k bt207.2 bt220.2 (bt220.2 != bt207.2) l0_0 l1_0 bt207.1 t212 t216 bt220.1) else (laws_FnExactSumOf.j0 k bt207.2 bt220.2 true l0_0 l1_0 bt207.1 t212 t216 bt220.1))))))))))))
theorem laws_FnExactSumOf.mono_l : ∀ k, (∀ y0 y1 y2 y3 y4 y5 y6 y7 y8, LeO (laws_FnExactSumOf.j0 k y0 y1 y2 y3 y4 y5 y6 y7 y8) (laws_FnExactSumOf.j0 (k + 1) y0 y1 y2 y3 y4 y5 y6 y7 y8)) ∧ (∀ y0 y1 y2 y3 y4 y5, LeO (laws_FnExactSumOf.j1 k y0 y1 y2 y3 y4 y5) (laws_FnExactSumOf.j1 (k + 1) y0 y1 y2 y3 y4 y5)) ∧ (∀ y0 y1 y2, LeO (laws_FnExactSumOf.j2 k y0 y1 y2) (laws_FnExactSumOf.j2 (k + 1) y0 y1 y2))
 | 0 => ⟨fun _ _ _ _ _ _ _ _ _ r h => by simp [laws_FnExactSumOf.j0] at h, fun _ _ _ _ _ _ r h => by simp [laws_FnExactSumOf.j1] at h, fun _ _ _ r h => by simp [laws_FnExactSumOf.j2] at h⟩
 | k + 1 => by
  obtain ⟨ih0, ih1, ih2⟩ := laws_FnExactSumOf.mono_l k
  refine ⟨?_, ?_, ?_⟩
  ·intro y0 y1 y2 y3 y4 y5 y6 y7 y8
   unfold laws_FnExactSumOf.j0
   repeat' first
   | (with_reducible exact ih0 _ _ _ _ _ _ _ _ _)
   | (with_reducible exact ih1 _ _ _ _ _ _)
   | (with_reducible exact ih2 _ _ _)
   | (with_reducible exact impl_SumOf.mono _ _ _)
   | (with_reducible exact laws_eqPoset.mono _ _ _)
   | (with_reducible exact laws_heldPoset.mono _ _ _)
   | (with_reducible exact laws_markPoset.mono _ _ _)
   | (with_reducible exact laws_toPoset.mono _ _)
   | (with_reducible exact spec_SumOf.mono _ _ _)
   | (with_reducible exact LeO.refl _)
   | (with_reducible exact LeO.none _)
   | (with_reducible refine LeO.ite ?_ ?_)
   | (with_reducible refine LeO.bind ?_ (fun _ => ?_))
   | exact ih0 _ _ _ _ _ _ _ _ _
   | exact ih1 _ _ _ _ _ _
   | exact ih2 _ _ _
   | exact impl_SumOf.mono _ _ _
   | exact laws_eqPoset.mono _ _ _
   | exact laws_heldPoset.mono _ _ _
   | exact laws_markPoset.mono _ _ _
   | exact laws_toPoset.mono _ _
   | exact spec_SumOf.mono _ _ _
   | exact LeO.none _
   | refine LeO.ite ?_ ?_
   | refine LeO.bind ?_ (fun _ => ?_)
  ·intro y0 y1 y2 y3 y4 y5
   unfold laws_FnExactSumOf.j1
   repeat' first
   | (with_reducible exact ih0 _ _ _ _ _ _ _ _ _)
   | (with_reducible exact ih1 _ _ _ _ _ _)
   | (with_reducible exact ih2 _ _ _)
   | (with_reducible exact impl_SumOf.mono _ _ _)
   | (with_reducible exact laws_eqPoset.mono _ _ _)
   | (with_reducible exact laws_heldPoset.mono _ _ _)
   | (with_reducible exact laws_markPoset.mono _ _ _)
   | (with_reducible exact laws_toPoset.mono _ _)
   | (with_reducible exact spec_SumOf.mono _ _ _)
   | (with_reducible exact LeO.refl _)
   | (with_reducible exact LeO.none _)
   | (with_reducible refine LeO.ite ?_ ?_)
   | (with_reducible refine LeO.bind ?_ (fun _ => ?_))
   | exact ih0 _ _ _ _ _ _ _ _ _
   | exact ih1 _ _ _ _ _ _
   | exact ih2 _ _ _
   | exact impl_SumOf.mono _ _ _
   | exact laws_eqPoset.mono _ _ _
   | exact laws_heldPoset.mono _ _ _
   | exact laws_markPoset.mono _ _ _
   | exact laws_toPoset.mono _ _
   | exact spec_SumOf.mono _ _ _
   | exact LeO.none _
   | refine LeO.ite ?_ ?_
   | refine LeO.bind ?_ (fun _ => ?_)
  ·intro y0 y1 y2
   unfold laws_FnExactSumOf.j2
   repeat' first
   | (with_reducible exact ih0 _ _ _ _ _ _ _ _ _)
   | (with_reducible exact ih1 _ _ _ _ _ _)
   | (with_reducible exact ih2 _ _ _)
   | (with_reducible exact impl_SumOf.mono _ _ _)
   | (with_reducible exact laws_eqPoset.mono _ _ _)
   | (with_reducible exact laws_heldPoset.mono _ _ _)
   | (with_reducible exact laws_markPoset.mono _ _ _)
   | (with_reducible exact laws_toPoset.mono _ _)
   | (with_reducible exact spec_SumOf.mono _ _ _)
   | (with_reducible exact LeO.refl _)
   | (with_reducible exact LeO.none _)
   | (with_reducible refine LeO.ite ?_ ?_)
   | (with_reducible refine LeO.bind ?_ (fun _ => ?_))
   | exact ih0 _ _ _ _ _ _ _ _ _
   | exact ih1 _ _ _ _ _ _
   | exact ih2 _ _ _
   | exact impl_SumOf.mono _ _ _
   | exact laws_eqPoset.mono _ _ _
   | exact laws_heldPoset.mono _ _ _
   | exact laws_markPoset.mono _ _ _
   | exact laws_toPoset.mono _ _
   | exact spec_SumOf.mono _ _ _
   | exact LeO.none _
   | refine LeO.ite ?_ ?_
   | refine LeO.bind ?_ (fun _ => ?_)
theorem laws_FnExactSumOf.mono : ∀ a0 a1 k, LeO (laws_FnExactSumOf.f k a0 a1) (laws_FnExactSumOf.f (k + 1) a0 a1) := by
 intro a0 a1 k
 obtain ⟨ih0, ih1, ih2⟩ := laws_FnExactSumOf.mono_l k
 unfold laws_FnExactSumOf.f
 repeat' first
   | (with_reducible exact ih0 _ _ _ _ _ _ _ _ _)
   | (with_reducible exact ih1 _ _ _ _ _ _)
   | (with_reducible exact ih2 _ _ _)
   | (with_reducible exact impl_SumOf.mono _ _ _)
   | (with_reducible exact laws_eqPoset.mono _ _ _)
   | (with_reducible exact laws_heldPoset.mono _ _ _)
   | (with_reducible exact laws_markPoset.mono _ _ _)
   | (with_reducible exact laws_toPoset.mono _ _)
   | (with_reducible exact spec_SumOf.mono _ _ _)
   | (with_reducible exact LeO.refl _)
   | (with_reducible exact LeO.none _)
   | (with_reducible refine LeO.ite ?_ ?_)
   | (with_reducible refine LeO.bind ?_ (fun _ => ?_))
   | exact ih0 _ _ _ _ _ _ _ _ _
   | exact ih1 _ _ _ _ _ _
   | exact ih2 _ _ _
   | exact impl_SumOf.mono _ _ _
   | exact laws_eqPoset.mono _ _ _
   | exact laws_heldPoset.mono _ _ _
   | exact laws_markPoset.mono _ _ _
   | exact laws_toPoset.mono _ _
   | exact spec_SumOf.mono _ _ _
   | exact LeO.none _
   | refine LeO.ite ?_ ?_
   | refine LeO.bind ?_ (fun _ => ?_)
def laws_FnExactSumOf.T8 : Bool × List (List Nat × List Nat) := (true, [([], []), ([0], [0]), ([], []), ([2, 1], [2]), ([1, 3, 3], [1, 3]), ([4], [4]), ([5], [5]), ([5], [5]), ([], []), ([8, 6, 4, 0, 1, 2, 3, 4, 5, 6, 8], [6, 8]), ([7, 9, 0, 1, 2, 3, 4, 5, 6, 7, 8, 9], [7])])
def laws_FnExactSumOf.B8 : List Nat := [0, 1, 0, 7, 15, 31, 63, 63, 0, 383, 1023]
theorem laws_FnExactSumOf.tab8 : rtab .any (opsOf Try.f3 8) = laws_FnExactSumOf.T8 := by kernel_rfl
theorem laws_FnExactSumOf.bits8 : waitsOk laws_FnExactSumOf.T8.2 laws_FnExactSumOf.B8 = true := by kernel_rfl
def laws_FnExactSumOf.T31 : Bool × List (List Nat × List Nat) := (true, [([], []), ([0], [0]), ([], []), ([2, 1], [2]), ([1, 3, 3], [1, 3]), ([4], [4]), ([5], [5]), ([5], [5]), ([], []), ([8, 6, 4, 0, 1, 2, 3, 4, 5, 6, 8], [6, 8]), ([7, 9, 0, 1, 2, 3, 4, 5, 6, 7, 8, 9], [7])])
def laws_FnExactSumOf.B31 : List Nat := [0, 1, 0, 7, 15, 31, 63, 63, 0, 383, 1023]
theorem laws_FnExactSumOf.tab31 : rtab .any (opsOf Try.f3 31) = laws_FnExactSumOf.T31 := by kernel_rfl
theorem laws_FnExactSumOf.bits31 : waitsOk laws_FnExactSumOf.T31.2 laws_FnExactSumOf.B31 = true := by kernel_rfl
/-- What follows a statement. -/
def laws_FnExactSumOf.cR : Code → Code
 | .seq _ b => b
 | c => c
/-- A sequence's first. -/
def laws_FnExactSumOf.cL : Code → Code
 | .seq a _ => a
 | c => c
/-- What follows the first n statements. -/
def laws_FnExactSumOf.cAt : Code → Nat → Code
 | c, 0 => c
 | c, n + 1 => laws_FnExactSumOf.cAt (laws_FnExactSumOf.cR c) n
end Go.Proofs.Ytpfolfplebpeaaa.B
