-- Laid by our mk.py through the kit's print.py, out of the translation. Not trusted: Lean checks it.
import Derived.Test.YtinnobjcphfejaaB0
import Derived.Test.YtinnobjcphfejaaB1
import Derived.Test.YtinnobjcphfejaaB2
import Derived.Test.YtinnobjcphfejaaB3
import Derived.Test.YtinnobjcphfejaaB8
import Derived.Test.YtinnobjcphfejaaB26
namespace Go.Proofs.Ytinnobjcphfejaa.B
open Go.RowKit Go.Proofs.YtinnobjcphfejaaW.PrintWords Go.Proofs.YtinnobjcphfejaaW.PrintLast Go.Proofs.YtinnobjcphfejaaW.PrintMore
attribute [local go_sem] max2_int min2_int max_two min_two max_three min_three max_four min_four   -- for this text's walks alone
set_option linter.unusedVariables false
set_option linter.unusedSimpArgs false

/-! ### laws_FnExactSumOf: function 3 (its contract) -/
set_option hygiene false
local macro "bq1_q3" : tactic => `(tactic| (with_reducible repeat (first | refine blk_drewN ?_ _ | refine blk_drew ?_ | refine blk_alloc ?_ _)))
local macro "bq2_q3" : tactic => `(tactic| (with_reducible repeat (first | apply Kd.R_alloc | apply Kd.R_drewN | apply Kd.R_drew)))
local macro "bq3_q3" : tactic => `(tactic| (first | (with_reducible first | exact HB.out | apply below_alloc | apply pw_below_drewN | apply below_drew1 | refine below_set ?_ GE197.out | refine below_set ?_ GE198.out | refine below_set ?_ GE211.out | refine below_set ?_ GE215.out | refine below_set ?_ GE219.out | refine below_set ?_ GE224.out) | exact HB.out))
local macro "bq4_q3" : tactic => `(tactic| (first | (with_reducible first | exact HB.out | apply below_alloc | apply pw_below_drewN | apply below_drew1 | refine below_set ?_ GE197.out | refine below_set ?_ GE198.out | refine below_set ?_ GE211.out | refine below_set ?_ GE215.out | refine below_set ?_ GE219.out | refine below_set ?_ GE224.out | refine below_set ?_ GE252.out) | exact HB.out))
local macro "bq5_q3" : term => `((by (try simp only [List.map_toArray, List.map_cons, List.map_nil]); first | done | rfl | (simp only [List.length_drop, List.length_take]; rfl)))
local macro "bq6_q3" : term => `((by repeat (first | (with_reducible first | exact HB.out | apply below_alloc | apply pw_below_drewN | apply below_drew1 | refine below_set ?_ GE197.out | refine below_set ?_ GE198.out | refine below_set ?_ GE211.out) | exact HB.out)))
local macro "bq7_q3" : tactic => `(tactic| (first | (with_reducible first | exact HB.out | apply below_alloc | apply pw_below_drewN | apply below_drew1 | refine below_set ?_ GE197.out | refine below_set ?_ GE198.out) | exact HB.out))
local macro "bq8_q3" : term => `((blk_below (g := gb197) (o := .cells #[.slice A0_0 l0_0.length c0_0] 24 (0, 0)) (by bq1_q3; exact BK197.out) hb))
local macro "bq9_q3" : term => `((blk_below (g := gb198) (o := .cells #[.slice A1_0 l1_0.length c1_0] 24 (0, 0)) (by bq1_q3; exact BK198.out) hb))
local macro "bq10_q3" : term => `((blk_below (g := gb211) (o := .cells #[.slice Ao41 t207.length co41] 26 (0, 0)) (by bq1_q3; exact BK211.out) hb))
local macro "bq11_q3" : term => `((blk_below (g := gb224) (o := .cells #[.slice Ao65 t220.length co65] 26 (0, 0)) (by bq1_q3; exact BK224.out) hb))
local macro "bq12_q3" : term => `((Kd.R_new' (Kd.R_new' (Kd.R_new' (Kd.R_new' ho0 (Kd.R_lt (by bq2_q3; exact HO_212000.out))) (Kd.R_lt (by bq2_q3; exact HO_216000.out))) (Kd.R_lt (by bq2_q3; exact HO_220000.out))) (Kd.R_lt (by bq2_q3; exact HO_225000.out))))
local macro "bq13_q3" : term => `((blk_lt (g := gb197) (o := .cells #[.slice A0_0 l0_0.length c0_0] 24 (0, 0)) (by bq1_q3; exact BK197.out)))
local macro "bq14_q3" : term => `((blk_lt (g := gb198) (o := .cells #[.slice A1_0 l1_0.length c1_0] 24 (0, 0)) (by bq1_q3; exact BK198.out)))
local macro "bq15_q3" : term => `((blk_below (g := gb219) (o := .cells #[.slice Ao56 t237.length co56] 26 (0, 0)) (by bq1_q3; exact BK219.out) hb))
local macro "bq16_q3" : term => `((blk_below (g := gb215) (o := .cells #[.slice Ao47 t235.length co47] 26 (0, 0)) (by bq1_q3; exact BK215.out) hb))
local macro "bq17_q3" : tactic => `(tactic| (case side1 => repeat (first | exact (Kd.C_below HR1_0.out HB.out) | (with_reducible refine Kd.C_alloc ?_ _) | (with_reducible refine Kd.C_drewN ?_ _) | (with_reducible refine Kd.C_drew ?_))))
local macro "bq18_q3" : tactic => `(tactic| (case side1 => repeat (first | exact (Kd.C_below HR0_0.out HB.out) | (with_reducible refine Kd.C_alloc ?_ _) | (with_reducible refine Kd.C_drewN ?_ _) | (with_reducible refine Kd.C_drew ?_))))
local macro "bq19_q3" : term => `((blk_below (g := gb215) (o := .cells #[.slice Ao47 t212.length co47] 26 (0, 0)) (by bq1_q3; exact BK215.out) hb))
local macro "bq20_q3" : tactic => `(tactic| (case side1 => repeat (first | exact (Kd.R_reads' HO_225000.out).2.2 | (with_reducible refine Kd.C_alloc ?_ _) | (with_reducible refine Kd.C_drewN ?_ _) | (with_reducible refine Kd.C_drew ?_))))
local macro "bq21_q3" : term => `((by repeat (first | (with_reducible first | exact HB.out | apply below_alloc | apply pw_below_drewN | apply below_drew1 | refine below_set ?_ GE197.out) | exact HB.out)))
local macro "bq22_q3" : term => `((by repeat (first | (with_reducible first | exact HB.out | apply below_alloc | apply pw_below_drewN | apply below_drew1 | refine below_set ?_ GE197.out | refine below_set ?_ GE198.out | refine below_set ?_ GE211.out | refine below_set ?_ GE215.out) | exact HB.out)))
local macro "bq23_q3" : term => `((blk_lt (g := gb211) (o := .cells #[.slice Ao41 t207.length co41] 26 (0, 0)) (by bq1_q3; exact BK211.out)))
local macro "bq24_q3" : term => `((blk_below (g := gb219) (o := .cells #[.slice Ao56 t216.length co56] 26 (0, 0)) (by bq1_q3; exact BK219.out) hb))
local macro "bq25_q3" : term => `((by repeat (first | (with_reducible first | exact HB.out | apply below_alloc | apply pw_below_drewN | apply below_drew1 | refine below_set ?_ GE197.out | refine below_set ?_ GE198.out | refine below_set ?_ GE211.out | refine below_set ?_ GE215.out | refine below_set ?_ GE219.out) | exact HB.out)))
local macro "bq26_q3" : term => `((by repeat (first | (with_reducible first | exact HB.out | apply below_alloc | apply pw_below_drewN | apply below_drew1) | exact HB.out)))
local macro "bq27_q3" : term => `((Kd.R_elder' (by bq2_q3; exact HO_225000.out) (Kd.R_base ho0) hb))
local macro "bq28_q3" : term => `((Kd.R_elder' (by bq2_q3; exact HO_220000.out) (Kd.R_base ho0) hb))
local macro "bq29_q3" : term => `((Kd.R_elder' (by bq2_q3; exact HO_216000.out) (Kd.R_base ho0) hb))
local macro "bq30_q3" : term => `((Kd.R_elder' (by bq2_q3; exact HO_212000.out) (Kd.R_base ho0) hb))
local macro "bq31_q3" : tactic => `(tactic| ((case hr => first | (go_simp; done) | (go_simp; rfl))))
local macro "bq32_q3" : term => `((blk_lt (g := gb224) (o := .cells #[.slice Ao65 t220.length co65] 26 (0, 0)) (by bq1_q3; exact BK224.out)))
local macro "bq33_q3" : term => `((blk_lt (g := gb219) (o := .cells #[.slice Ao56 t237.length co56] 26 (0, 0)) (by bq1_q3; exact BK219.out)))
local macro "bq34_q3" : term => `((blk_lt (g := gb215) (o := .cells #[.slice Ao47 t235.length co47] 26 (0, 0)) (by bq1_q3; exact BK215.out)))
local macro "bq35_q3" : term => `((by simp only [putAll, Act.put, List.setIfInBounds_toArray, List.set_cons_zero, List.set_cons_succ]))
local macro "bq36_q3" : tactic => `(tactic| ((case side3 => refine (Kd.R_reads' (e := 3) (base := w.heap.size) (ok := fun k_ => (some k_ ≠ (v243 : Value).ownBlock ∧ (some k_ ≠ (v246 : Value).ownBlock ∧ (some k_ ≠ (.slice Ao191 t248.length co191 : Value).ownBlock ∧ (some k_ ≠ (.slice Ao47 t235.length co47 : Value).ownBlock ∧ (some k_ ≠ (.slice Ao56 t237.length co56 : Value).ownBlock ∧ some k_ ≠ (.slice Ao65 t220.length co65 : Value).ownBlock)))))) (n := t207.length) (c := co41) ?_).2.2; exact (by bq2_q3; exact (Kd.R_mono (Kd.R_far (p := ⟨gb252, 0, none⟩) (Kd.R_types HO_212000.out BK252.out (by decide)) (fun _ hk => hk.2) (.slice Ao191 t248.length co191)) (fun _ h_ => h_.1))))))
local macro "bq37_q3" : term => `((Kd.R_mono (ok' := fun k_ => some k_ ≠ (.slice Ao47 t235.length co47 : Value).ownBlock ∧ some k_ ≠ (.slice Ao56 t237.length co56 : Value).ownBlock ∧ some k_ ≠ (.slice Ao65 t220.length co65 : Value).ownBlock) (Kd.R_keptB (HO_212000.out) hkp (fun k_ hk_ hs_ => (hk_.2.2) hs_)) (fun k_ hk_ => ⟨hk_.1.1, hk_.1.2.1, hk_.1.2.2⟩)))
local macro "bq38_q3" : term => `((Kd.R_mono (ok' := fun k_ => some k_ ≠ (.slice Ao41 t207.length co41 : Value).ownBlock ∧ some k_ ≠ (.slice Ao56 t237.length co56 : Value).ownBlock ∧ some k_ ≠ (.slice Ao65 t220.length co65 : Value).ownBlock) (Kd.R_keptB (HO_216000.out) hkp (fun k_ hk_ hs_ => (hk_.2.2) hs_)) (fun k_ hk_ => ⟨hk_.1.1, hk_.1.2.1, hk_.1.2.2⟩)))
local macro "bq39_q3" : term => `((Kd.R_mono (ok' := fun k_ => some k_ ≠ (.slice Ao41 t207.length co41 : Value).ownBlock ∧ some k_ ≠ (.slice Ao47 t235.length co47 : Value).ownBlock ∧ some k_ ≠ (.slice Ao65 t220.length co65 : Value).ownBlock) (Kd.R_keptB (HO_220000.out) hkp (fun k_ hk_ hs_ => (hk_.2.2) hs_)) (fun k_ hk_ => ⟨hk_.1.1, hk_.1.2.1, hk_.1.2.2⟩)))
local macro "bq40_q3" : tactic => `(tactic| ((case side1 => refine (Kd.R_reads' (e := 3) (base := w.heap.size) (ok := fun k_ => (some k_ ≠ (v243 : Value).ownBlock ∧ (some k_ ≠ (v246 : Value).ownBlock ∧ (some k_ ≠ (.slice Ao41 t207.length co41 : Value).ownBlock ∧ (some k_ ≠ (.slice Ao47 t235.length co47 : Value).ownBlock ∧ (some k_ ≠ (.slice Ao56 t237.length co56 : Value).ownBlock ∧ some k_ ≠ (.slice Ao65 t220.length co65 : Value).ownBlock)))))) (n := t248.length) (c := co191) ?_).2.2; exact (by bq2_q3; exact (Kd.R_mono (Kd.R_far (p := ⟨gb252, 0, none⟩) (Kd.R_types HO250.out BK252.out (by decide)) (fun _ hk => hk.2) (.slice Ao191 t248.length co191)) (fun _ h_ => h_.1))))))
local macro "bq41_q3" : tactic => `(tactic| ((case side1 => refine (Kd.R_reads' (e := 3) (base := w.heap.size) (ok := fun k_ => (((((True ∧ some k_ ≠ (v202 : Value).ownBlock) ∧ some k_ ≠ (v205 : Value).ownBlock) ∧ some k_ ≠ (.slice Ao41 t207.length co41 : Value).ownBlock) ∧ some k_ ≠ (.slice Ao47 t212.length co47 : Value).ownBlock) ∧ some k_ ≠ (.slice Ao56 t216.length co56 : Value).ownBlock)) (n := t220.length) (c := co65) ?_).2.2; exact (by bq2_q3; exact (Kd.R_mono (Kd.R_far (p := ⟨gb224, 0, none⟩) (Kd.R_types HO222.out BK224.out (by decide)) (fun _ hk => hk.2) (.slice Ao65 t220.length co65)) (fun _ h_ => h_.1))))))
local macro "bq42_q3" : tactic => `(tactic| ((case side3 => refine (Kd.R_reads' (e := 3) (base := w.heap.size) (ok := fun k_ => ((((some k_ ≠ (v202 : Value).ownBlock ∧ some k_ ≠ (v205 : Value).ownBlock) ∧ some k_ ≠ (.slice Ao47 t212.length co47 : Value).ownBlock) ∧ some k_ ≠ (.slice Ao56 t216.length co56 : Value).ownBlock) ∧ some k_ ≠ (.slice Ao65 t220.length co65 : Value).ownBlock)) (n := t207.length) (c := co41) ?_).2.2; exact (by bq2_q3; exact (Kd.R_mono (Kd.R_far (p := ⟨gb224, 0, none⟩) (Kd.R_types HO209.out BK224.out (by decide)) (fun _ hk => hk.2) (.slice Ao65 t220.length co65)) (fun _ h_ => h_.1))))))
local macro "bq43_q3" : tactic => `(tactic| (case side3 => repeat (first | exact (Kd.R_reads' HO247.out).2.2 | (with_reducible refine Kd.C_alloc ?_ _) | (with_reducible refine Kd.C_drewN ?_ _) | (with_reducible refine Kd.C_drew ?_))))
local macro "bq44_q3" : tactic => `(tactic| (case side3 => repeat (first | exact (Kd.R_reads' HO206.out).2.2 | (with_reducible refine Kd.C_alloc ?_ _) | (with_reducible refine Kd.C_drewN ?_ _) | (with_reducible refine Kd.C_drew ?_))))
local macro "bq45_q3" : tactic => `(tactic| (case side1 => repeat (first | exact (Kd.R_reads' HO244.out).2.2 | (with_reducible refine Kd.C_alloc ?_ _) | (with_reducible refine Kd.C_drewN ?_ _) | (with_reducible refine Kd.C_drew ?_))))
local macro "bq46_q3" : tactic => `(tactic| (case side1 => repeat (first | exact (Kd.R_reads' HO203.out).2.2 | (with_reducible refine Kd.C_alloc ?_ _) | (with_reducible refine Kd.C_drewN ?_ _) | (with_reducible refine Kd.C_drew ?_))))
local macro "bq47_q3" : term => `((by rw [hg]; exact (below_size (by repeat bq7_q3)) : w.heap.size ≤ gb211))
local macro "bq48_q3" : term => `((by rw [hg]; exact (below_size (by repeat bq3_q3)) : w.heap.size ≤ gb252))
local macro "bq49_q3" : term => `((blk_below (g := gb252) (o := .cells #[.slice none 0 0] 26 (0, 0)) (by bq1_q3; exact BK252.out) hb))
local macro "bq50_q3" : term => `((blk_below (g := gb211) (o := .cells #[.slice none 0 0] 26 (0, 0)) (by bq1_q3; exact BK211.out) hb))
local macro "bq51_q3" : term => `((by (try simp only [List.map_toArray, List.map_cons, List.map_nil]); first | done | (rw [show t240.length = t220.length from (Kd.R_reads' HO_225000.out).1.symm] <;> rfl) | rfl | (simp only [List.length_drop, List.length_take]; rfl)))
local macro "bq52_q3" : tactic => `(tactic| ((first | subst eo187 | (injection eo187 with f1_ f2_ f3_; have f4_ := f1_.symm; have f5_ := f3_.symm; clear f1_ f2_ f3_; subst f4_; subst f5_))))
local macro "bq53_q3" : tactic => `(tactic| ((first | subst eo37 | (injection eo37 with f1_ f2_ f3_; have f4_ := f1_.symm; have f5_ := f3_.symm; clear f1_ f2_ f3_; subst f4_; subst f5_))))
local macro "bq54_q3" : tactic => `(tactic| (with_reducible refine (laws_markPoset.calls kj106 (fun k_ => some k_ = (.slice Ao65 t220.length co65 : Value).ownBlock) (.slice Ao65 t220.length co65) t220 1 t239 t240 w _ ?side1 ?side2 A157.out).mono ?_))
local macro "bq55_q3" : tactic => `(tactic| (case side1 => repeat (first | exact (Kd.R_reads' HO_216000.out).2.2 | (with_reducible refine Kd.C_alloc ?_ _) | (with_reducible refine Kd.C_drewN ?_ _) | (with_reducible refine Kd.C_drew ?_))))
local macro "bq56_q3" : term => `((by bq2_q3; exact Kd.R_mono HO_225000.out (fun _ hk => ⟨hk.1.1.2, ⟨hk.1.2, ⟨hk.2, ⟨hk.1.1.1.1, ⟨hk.1.1.1.2.1, hk.1.1.1.2.2⟩⟩⟩⟩⟩)))
local macro "bq57_q3" : term => `((by bq2_q3; exact Kd.R_mono HO_220000.out (fun _ hk => ⟨hk.1.1.2, ⟨hk.1.2, ⟨hk.2, ⟨hk.1.1.1.1, ⟨hk.1.1.1.2.1, hk.1.1.1.2.2⟩⟩⟩⟩⟩)))
local macro "bq58_q3" : term => `((by bq2_q3; exact Kd.R_mono HO_216000.out (fun _ hk => ⟨hk.1.1.2, ⟨hk.1.2, ⟨hk.2, ⟨hk.1.1.1.1, ⟨hk.1.1.1.2.1, hk.1.1.1.2.2⟩⟩⟩⟩⟩)))
local macro "bq59_q3" : term => `((by bq2_q3; exact Kd.R_mono HO_212000.out (fun _ hk => ⟨hk.1.1.2, ⟨hk.1.2, ⟨hk.2, ⟨hk.1.1.1.1, ⟨hk.1.1.1.2.1, hk.1.1.1.2.2⟩⟩⟩⟩⟩)))
local macro "bq60_q3" : tactic => `(tactic| (case side3 => repeat (first | exact (Kd.R_reads' HO228.out).2.2 | (with_reducible refine Kd.C_alloc ?_ _) | (with_reducible refine Kd.C_drewN ?_ _) | (with_reducible refine Kd.C_drew ?_))))
local macro "bq61_q3" : term => `((by bq2_q3; exact Kd.R_mono HO250.out (fun _ hk => ⟨hk.1.2, ⟨hk.2, ⟨hk.1.1.1.1.1.2, ⟨hk.1.1.1.1.2, ⟨hk.1.1.1.2, hk.1.1.2⟩⟩⟩⟩⟩)))
local macro "bq62_q3" : term => `((by bq2_q3; exact Kd.R_mono HO247.out (fun _ hk => ⟨hk.1.2, ⟨hk.2, ⟨hk.1.1.1.1.1.2, ⟨hk.1.1.1.1.2, ⟨hk.1.1.1.2, hk.1.1.2⟩⟩⟩⟩⟩)))
local macro "bq63_q3" : term => `((by bq2_q3; exact Kd.R_mono HO244.out (fun _ hk => ⟨hk.1.2, ⟨hk.2, ⟨hk.1.1.1.1.1.2, ⟨hk.1.1.1.1.2, ⟨hk.1.1.1.2, hk.1.1.2⟩⟩⟩⟩⟩)))
local macro "bq64_q3" : term => `((by bq2_q3; exact (Kd.R_mono (Kd.R_far (p := ⟨gb219, 0, none⟩) (Kd.R_types HO218.out BK219.out (by decide)) (fun _ hk => hk.2) (.slice Ao56 t216.length co56)) (fun _ h_ => h_.1))))
local macro "bq65_q3" : term => `((by bq2_q3; exact (Kd.R_mono (Kd.R_far (p := ⟨gb219, 0, none⟩) (Kd.R_types HO214.out BK219.out (by decide)) (fun _ hk => hk.2) (.slice Ao56 t216.length co56)) (fun _ h_ => h_.1))))
local macro "bq66_q3" : term => `((Kd.R_elder' (by bq2_q3; exact HO244.out) (Kd.R_base ho0) hb))
local macro "bq67_q3" : term => `((Kd.R_elder' (by bq2_q3; exact HO203.out) (Kd.R_base ho0) hb))
local macro "bq68_q3" : term => `((Kd.R_new' (Kd.R_new' bq12_q3 (Kd.R_lt (by bq2_q3; exact HO244.out))) (Kd.R_lt (by bq2_q3; exact HO247.out))))
local macro "bq69_q3" : term => `((blk_lt (g := gb215) (o := .cells #[.slice Ao47 t212.length co47] 26 (0, 0)) (by bq1_q3; exact BK215.out)))
local macro "bq70_q3" : term => `((Kd.R_new' (Kd.R_new' ho0 (Kd.R_lt (by bq2_q3; exact HO203.out))) (Kd.R_lt (by bq2_q3; exact HO206.out))))
local macro "bq71_q3" : tactic => `(tactic| ((first | subst eo188 | (injection eo188 with f1_ f2_ f3_; have f4_ := f1_.symm; have f5_ := f3_.symm; clear f1_ f2_ f3_; subst f4_; subst f5_))))
local macro "bq72_q3" : term => `((by rw [hg]; exact (below_size bq26_q3) : w.heap.size ≤ gb197))
local macro "bq73_q3" : term => `((by rw [hg]; exact (below_size bq21_q3) : w.heap.size ≤ gb198))
local macro "bq74_q3" : tactic => `(tactic| ((first | subst eo38 | (injection eo38 with f1_ f2_ f3_; have f4_ := f1_.symm; have f5_ := f3_.symm; clear f1_ f2_ f3_; subst f4_; subst f5_))))
local macro "bq75_q3" : tactic => `(tactic| ((case side2 => rw [show t240.length = t220.length from (Kd.R_reads' HO_225000.out).1.symm]; exact (Kd.R_reads' HO_225000.out).2.1)))
local macro "bq76_q3" : term => `((blk_kept (by bq1_q3; exact BK224.out) hkp (fun hs_ => (fun e_ => (Kd.R_ne HO_225000.out BK224.out (by decide)) e_) hs_)))
local macro "bq77_q3" : term => `((blk_kept (by bq1_q3; exact BK219.out) hkp (fun hs_ => (fun e_ => (Kd.R_ne HO_225000.out BK219.out (by decide)) e_) hs_)))
local macro "bq78_q3" : term => `((blk_kept (by bq1_q3; exact BK215.out) hkp (fun hs_ => (fun e_ => (Kd.R_ne HO_225000.out BK215.out (by decide)) e_) hs_)))
local macro "bq79_q3" : term => `((blk_kept (by bq1_q3; exact BK211.out) hkp (fun hs_ => (fun e_ => (Kd.R_ne HO_225000.out BK211.out (by decide)) e_) hs_)))
local macro "bq80_q3" : term => `((blk_kept (by bq1_q3; exact BK198.out) hkp (fun hs_ => (fun e_ => (Kd.R_ne HO_225000.out BK198.out (by decide)) e_) hs_)))
local macro "bq81_q3" : term => `((blk_kept (by bq1_q3; exact BK197.out) hkp (fun hs_ => (fun e_ => (Kd.R_ne HO_225000.out BK197.out (by decide)) e_) hs_)))
local macro "bq82_q3" : tactic => `(tactic| (with_reducible refine gate_callee (f := 15) rfl ?_))
local macro "bq83_q3" : term => `((blk_below (g := gb252) (o := .cells #[.slice Ao191 t248.length co191] 26 (0, 0)) (by bq1_q3; exact BK252.out) hb))
local macro "bq84_q3" : term => `((blk_below (g := gb224) (o := .cells #[.slice Ao65 t240.length co65] 26 (0, 0)) (by bq1_q3; exact BK224.out) hb))
local macro "bq85_q3" : term => `((Kd.R_below (by bq2_q3; exact (Kd.R_mono (Kd.R_far (p := ⟨gb252, 0, none⟩) (Kd.R_types HO_225000.out BK252.out (by decide)) (fun _ hk => hk.2) (.slice Ao191 t248.length co191)) (fun _ h_ => h_.1))) hb))
local macro "bq86_q3" : term => `((Kd.R_below (by bq2_q3; exact (Kd.R_mono (Kd.R_far (p := ⟨gb252, 0, none⟩) (Kd.R_types HO_220000.out BK252.out (by decide)) (fun _ hk => hk.2) (.slice Ao191 t248.length co191)) (fun _ h_ => h_.1))) hb))
local macro "bq87_q3" : term => `((Kd.R_below (by bq2_q3; exact (Kd.R_mono (Kd.R_far (p := ⟨gb252, 0, none⟩) (Kd.R_types HO_216000.out BK252.out (by decide)) (fun _ hk => hk.2) (.slice Ao191 t248.length co191)) (fun _ h_ => h_.1))) hb))
local macro "bq88_q3" : term => `((Kd.R_below (by bq2_q3; exact (Kd.R_mono (Kd.R_far (p := ⟨gb252, 0, none⟩) (Kd.R_types HO_212000.out BK252.out (by decide)) (fun _ hk => hk.2) (.slice Ao191 t248.length co191)) (fun _ h_ => h_.1))) hb))
local macro "bq89_q3" : term => `((Kd.R_below (by bq2_q3; exact (Kd.R_mono (Kd.R_far (p := ⟨gb252, 0, none⟩) (Kd.R_types HO250.out BK252.out (by decide)) (fun _ hk => hk.2) (.slice Ao191 t248.length co191)) (fun _ h_ => h_.1))) hb))
local macro "bq90_q3" : term => `((Kd.R_below (by bq2_q3; exact (Kd.R_mono (Kd.R_far (p := ⟨gb252, 0, none⟩) (Kd.R_types HO247.out BK252.out (by decide)) (fun _ hk => hk.2) (.slice Ao191 t248.length co191)) (fun _ h_ => h_.1))) hb))
local macro "bq91_q3" : term => `((Kd.R_below (by bq2_q3; exact (Kd.R_mono (Kd.R_far (p := ⟨gb252, 0, none⟩) (Kd.R_types HO244.out BK252.out (by decide)) (fun _ hk => hk.2) (.slice Ao191 t248.length co191)) (fun _ h_ => h_.1))) hb))
local macro "bq92_q3" : term => `((Kd.R_below (by bq2_q3; exact (Kd.R_mono (Kd.R_far (p := ⟨gb224, 0, none⟩) (Kd.R_types HO222.out BK224.out (by decide)) (fun _ hk => hk.2) (.slice Ao65 t220.length co65)) (fun _ h_ => h_.1))) hb))
local macro "bq93_q3" : term => `((Kd.R_below (by bq2_q3; exact (Kd.R_mono (Kd.R_far (p := ⟨gb224, 0, none⟩) (Kd.R_types HO218.out BK224.out (by decide)) (fun _ hk => hk.2) (.slice Ao65 t220.length co65)) (fun _ h_ => h_.1))) hb))
local macro "bq94_q3" : term => `((Kd.R_below (by bq2_q3; exact (Kd.R_mono (Kd.R_far (p := ⟨gb224, 0, none⟩) (Kd.R_types HO214.out BK224.out (by decide)) (fun _ hk => hk.2) (.slice Ao65 t220.length co65)) (fun _ h_ => h_.1))) hb))
local macro "bq95_q3" : term => `((Kd.R_below (by bq2_q3; exact (Kd.R_mono (Kd.R_far (p := ⟨gb224, 0, none⟩) (Kd.R_types HO209.out BK224.out (by decide)) (fun _ hk => hk.2) (.slice Ao65 t220.length co65)) (fun _ h_ => h_.1))) hb))
local macro "bq96_q3" : term => `((Kd.R_below (by bq2_q3; exact (Kd.R_mono (Kd.R_far (p := ⟨gb224, 0, none⟩) (Kd.R_types HO206.out BK224.out (by decide)) (fun _ hk => hk.2) (.slice Ao65 t220.length co65)) (fun _ h_ => h_.1))) hb))
local macro "bq97_q3" : term => `((Kd.R_below (by bq2_q3; exact (Kd.R_mono (Kd.R_far (p := ⟨gb224, 0, none⟩) (Kd.R_types HO203.out BK224.out (by decide)) (fun _ hk => hk.2) (.slice Ao65 t220.length co65)) (fun _ h_ => h_.1))) hb))
local macro "bq98_q3" : tactic => `(tactic| (with_reducible refine (laws_heldPoset.calls kj172 _ _ t240 1 t254 _ ?side1 ?side2 A224.out).mono ?_))
local macro "bq99_q3" : tactic => `(tactic| (with_reducible refine (laws_heldPoset.calls kj106 _ _ t240 1 t241 _ ?side1 ?side2 A158.out).mono ?_))
local macro "bq100_q3" : tactic => `(tactic| (case side3 => repeat (first | exact (Kd.R_reads' HO_212000.out).2.2 | (with_reducible refine Kd.C_alloc ?_ _) | (with_reducible refine Kd.C_drewN ?_ _) | (with_reducible refine Kd.C_drew ?_))))
local macro "bq101_q3" : tactic => `(tactic| (case side1 => repeat (first | exact (Kd.R_reads' HO_220000.out).2.2 | (with_reducible refine Kd.C_alloc ?_ _) | (with_reducible refine Kd.C_drewN ?_ _) | (with_reducible refine Kd.C_drew ?_))))
local macro "bq102_q3" : tactic => `(tactic| (case side3 => repeat (first | exact (Kd.R_reads' HO232.out).2.2 | (with_reducible refine Kd.C_alloc ?_ _) | (with_reducible refine Kd.C_drewN ?_ _) | (with_reducible refine Kd.C_drew ?_))))
local macro "bq103_q3" : tactic => `(tactic| (case side2 => exact (Kd.R_reads' HO_225000.out).2.1))
local macro "bq104_q3" : tactic => `(tactic| (with_reducible refine (laws_szPoset.calls _ _ l0_0 1048576 t199 _ ?side1 ?side2 A3.out).mono ?_))
local macro "bq105_q3" : term => `((by bq2_q3; exact Kd.R_mono HO209.out (fun _ hk => ⟨hk.1.2, hk.2⟩)))
local macro "bq106_q3" : term => `((by bq2_q3; exact Kd.R_mono HO206.out (fun _ hk => ⟨hk.1.2, hk.2⟩)))
local macro "bq107_q3" : term => `((by bq2_q3; exact Kd.R_mono HO203.out (fun _ hk => ⟨hk.1.2, hk.2⟩)))
local macro "bq108_q3" : tactic => `(tactic| (with_reducible refine gate_callee (f := 14) rfl ?_))
local macro "bq109_q3" : tactic => `(tactic| (with_reducible refine gate_callee (f := 9) rfl ?_))
local macro "bq110_q3" : term => `((by bq2_q3; exact (Kd.R_mono (Kd.R_far (p := ⟨gb219, 0, none⟩) (Kd.R_types HO209.out BK219.out (by decide)) (fun _ hk => hk.2) (.slice Ao56 t216.length co56)) (fun _ h_ => h_.1))))
local macro "bq111_q3" : term => `((by bq2_q3; exact (Kd.R_mono (Kd.R_far (p := ⟨gb219, 0, none⟩) (Kd.R_types HO206.out BK219.out (by decide)) (fun _ hk => hk.2) (.slice Ao56 t216.length co56)) (fun _ h_ => h_.1))))
local macro "bq112_q3" : term => `((by bq2_q3; exact (Kd.R_mono (Kd.R_far (p := ⟨gb219, 0, none⟩) (Kd.R_types HO203.out BK219.out (by decide)) (fun _ hk => hk.2) (.slice Ao56 t216.length co56)) (fun _ h_ => h_.1))))
local macro "bq113_q3" : term => `((by bq2_q3; exact (Kd.R_mono (Kd.R_far (p := ⟨gb215, 0, none⟩) (Kd.R_types HO214.out BK215.out (by decide)) (fun _ hk => hk.2) (.slice Ao47 t212.length co47)) (fun _ h_ => h_.1))))
local macro "bq114_q3" : term => `((by bq2_q3; exact (Kd.R_mono (Kd.R_far (p := ⟨gb215, 0, none⟩) (Kd.R_types HO209.out BK215.out (by decide)) (fun _ hk => hk.2) (.slice Ao47 t212.length co47)) (fun _ h_ => h_.1))))
local macro "bq115_q3" : term => `((by bq2_q3; exact (Kd.R_mono (Kd.R_far (p := ⟨gb215, 0, none⟩) (Kd.R_types HO206.out BK215.out (by decide)) (fun _ hk => hk.2) (.slice Ao47 t212.length co47)) (fun _ h_ => h_.1))))
local macro "bq116_q3" : term => `((by bq2_q3; exact (Kd.R_mono (Kd.R_far (p := ⟨gb215, 0, none⟩) (Kd.R_types HO203.out BK215.out (by decide)) (fun _ hk => hk.2) (.slice Ao47 t212.length co47)) (fun _ h_ => h_.1))))
local macro "bq117_q3" : term => `((by bq2_q3; exact (Kd.R_mono (Kd.R_far (p := ⟨gb211, 0, none⟩) (Kd.R_types HO209.out BK211.out (by decide)) (fun _ hk => hk.2) (.slice Ao41 t207.length co41)) (fun _ h_ => h_.1))))
local macro "bq118_q3" : term => `((by bq2_q3; exact (Kd.R_mono (Kd.R_far (p := ⟨gb211, 0, none⟩) (Kd.R_types HO206.out BK211.out (by decide)) (fun _ hk => hk.2) (.slice Ao41 t207.length co41)) (fun _ h_ => h_.1))))
local macro "bq119_q3" : term => `((by bq2_q3; exact (Kd.R_mono (Kd.R_far (p := ⟨gb211, 0, none⟩) (Kd.R_types HO203.out BK211.out (by decide)) (fun _ hk => hk.2) (.slice Ao41 t207.length co41)) (fun _ h_ => h_.1))))
local macro "bq120_q3" : term => `((blk_below (g := gb252) (o := .cells #[.slice Ao191 t248.length co191] 26 (0, 0)) (by bq1_q3; refine blk_put (cs := #[.slice none 0 0]) ?_ 0 _ rfl; bq1_q3; exact BK252.out) hb))
local macro "bq121_q3" : term => `((blk_below (g := gb224) (o := .cells #[.slice Ao65 t220.length co65] 26 (0, 0)) (by bq1_q3; refine blk_put (cs := #[.slice none 0 0]) ?_ 0 _ rfl; bq1_q3; exact BK224.out) hb))
local macro "bq122_q3" : term => `((Kd.R_elder' (by bq2_q3; exact HO247.out) (Kd.R_base ho0) hb))
local macro "bq123_q3" : term => `((Kd.R_elder' (by bq2_q3; exact HO206.out) (Kd.R_base ho0) hb))
local macro "bq124_q3" : term => `((blk_below (g := gb224) (o := .cells #[.slice Ao65 t220.length co65] 26 (0, 0)) (by bq1_q3; refine blk_far ?_ NB224_252.out _; bq1_q3; exact BK224.out) hb))
local macro "bq125_q3" : term => `((blk_below (g := gb219) (o := .cells #[.slice Ao56 t237.length co56] 26 (0, 0)) (by bq1_q3; refine blk_far ?_ NB219_252.out _; bq1_q3; exact BK219.out) hb))
local macro "bq126_q3" : term => `((blk_below (g := gb219) (o := .cells #[.slice Ao56 t216.length co56] 26 (0, 0)) (by bq1_q3; refine blk_far ?_ NB219_224.out _; bq1_q3; exact BK219.out) hb))
local macro "bq127_q3" : term => `((blk_below (g := gb215) (o := .cells #[.slice Ao47 t235.length co47] 26 (0, 0)) (by bq1_q3; refine blk_far ?_ NB215_252.out _; bq1_q3; exact BK215.out) hb))
local macro "bq128_q3" : term => `((blk_below (g := gb215) (o := .cells #[.slice Ao47 t212.length co47] 26 (0, 0)) (by bq1_q3; refine blk_far ?_ NB215_224.out _; bq1_q3; exact BK215.out) hb))
local macro "bq129_q3" : term => `((blk_below (g := gb211) (o := .cells #[.slice Ao41 t207.length co41] 26 (0, 0)) (by bq1_q3; refine blk_far ?_ NB211_252.out _; bq1_q3; exact BK211.out) hb))
local macro "bq130_q3" : term => `((blk_below (g := gb211) (o := .cells #[.slice Ao41 t207.length co41] 26 (0, 0)) (by bq1_q3; refine blk_far ?_ NB211_224.out _; bq1_q3; exact BK211.out) hb))
local macro "bq131_q3" : term => `((blk_below (g := gb198) (o := .cells #[.slice A1_0 l1_0.length c1_0] 24 (0, 0)) (by bq1_q3; refine blk_far ?_ NB198_252.out _; bq1_q3; exact BK198.out) hb))
local macro "bq132_q3" : term => `((blk_below (g := gb198) (o := .cells #[.slice A1_0 l1_0.length c1_0] 24 (0, 0)) (by bq1_q3; refine blk_far ?_ NB198_224.out _; bq1_q3; exact BK198.out) hb))
local macro "bq133_q3" : term => `((blk_below (g := gb197) (o := .cells #[.slice A0_0 l0_0.length c0_0] 24 (0, 0)) (by bq1_q3; refine blk_far ?_ NB197_252.out _; bq1_q3; exact BK197.out) hb))
local macro "bq134_q3" : term => `((blk_below (g := gb197) (o := .cells #[.slice A0_0 l0_0.length c0_0] 24 (0, 0)) (by bq1_q3; refine blk_far ?_ NB197_224.out _; bq1_q3; exact BK197.out) hb))
local macro "bq135_q3" : term => `((by rw [hg]; exact Nat.ne_of_lt bq34_q3 : gb215 ≠ gb252))
local macro "bq136_q3" : term => `((by rw [hg]; exact Nat.ne_of_lt bq33_q3 : gb219 ≠ gb252))
local macro "bq137_q3" : term => `((by rw [hg]; exact Nat.ne_of_lt bq32_q3 : gb224 ≠ gb252))
local macro "bq138_q3" : term => `((by rw [hg]; exact Nat.ne_of_lt bq23_q3 : gb211 ≠ gb252))
local macro "bq139_q3" : term => `((by rw [hg]; exact Nat.ne_of_lt bq14_q3 : gb198 ≠ gb252))
local macro "bq140_q3" : term => `((by rw [hg]; exact Nat.ne_of_lt bq14_q3 : gb198 ≠ gb211))
local macro "bq141_q3" : term => `((by rw [hg]; exact Nat.ne_of_lt bq13_q3 : gb197 ≠ gb252))
local macro "bq142_q3" : term => `((by rw [hg]; exact Nat.ne_of_lt bq13_q3 : gb197 ≠ gb211))
local macro "bq143_q3" : term => `((by rw [hg]; exact Nat.ne_of_gt bq34_q3 : gb252 ≠ gb215))
local macro "bq144_q3" : term => `((by rw [hg]; exact Nat.ne_of_gt bq33_q3 : gb252 ≠ gb219))
local macro "bq145_q3" : term => `((by rw [hg]; exact Nat.ne_of_gt bq32_q3 : gb252 ≠ gb224))
local macro "bq146_q3" : term => `((by rw [hg]; exact Nat.ne_of_gt bq23_q3 : gb252 ≠ gb211))
local macro "bq147_q3" : term => `((by rw [hg]; exact Nat.ne_of_gt bq14_q3 : gb252 ≠ gb198))
local macro "bq148_q3" : term => `((by rw [hg]; exact Nat.ne_of_gt bq14_q3 : gb211 ≠ gb198))
local macro "bq149_q3" : term => `((by rw [hg]; exact Nat.ne_of_gt bq13_q3 : gb252 ≠ gb197))
local macro "bq150_q3" : term => `((by rw [hg]; exact Nat.ne_of_gt bq13_q3 : gb211 ≠ gb197))
local macro "bq151_q3" : tactic => `(tactic| (case side4 => exact (Kd.R_reads' HO_212000.out).2.1))
local macro "bq152_q3" : tactic => `(tactic| (with_reducible refine gate_callee (f := 13) rfl ?_))
local macro "bq153_q3" : term => `((Kd.R_lower bq12_q3 (below_size (by repeat bq3_q3))))
local macro "bq154_q3" : tactic => `(tactic| (simp only [Act.put, List.setIfInBounds_toArray, List.set_cons_zero, List.set_cons_succ, i64_w, i32_w]))
local macro "bq155_q3" : tactic => `(tactic| (refine hK.out _ _ ⟨(blk_cell BK197.out 0).trans rfl, (blk_cell BK198.out 0).trans rfl⟩ (fun hHeld => ?_)))
local macro "bq156_q3" : tactic => `(tactic| (have n0_ := Aside0.mk (Kd.R_below (by bq2_q3; exact HO_212000.out) hb); have n1_ := Aside0.mk (Kd.R_below (by bq2_q3; exact HO_216000.out) hb); have n2_ := Aside0.mk (Kd.R_below (by bq2_q3; exact HO_220000.out) hb); have n3_ := Aside0.mk (Kd.R_below (by bq2_q3; exact HO_225000.out) hb)))
local macro "bq157_q3" : tactic => `(tactic| (clear BK224; clear HB; have HO_212000 := n0_; have HO_216000 := n1_; have HO_220000 := n2_; have HO_225000 := n3_; have BK197 := n4_; have BK198 := n5_; have BK211 := n6_; have BK215 := n7_; have BK219 := n8_; have BK224 := n9_; have HB := n10_; clear n0_ n1_ n2_ n3_ n4_ n5_ n6_ n7_ n8_ n9_ n10_; (try clear hb)))
local macro "bq158_q3" : tactic => `(tactic| (refine ⟨_, rfl, ?_⟩; have n0_ := Aside0.mk bq8_q3; have n1_ := Aside0.mk bq9_q3; have n2_ := Aside0.mk (below_step (by repeat bq7_q3) hb); clear BK197; clear BK198; clear HB; have BK197 := n0_; have BK198 := n1_; have HB := n2_; clear n0_ n1_ n2_; (try clear hb); (try clear hb2); (try clear hk); (try clear hi)))
local macro "bq159_q3" : tactic => `(tactic| (exact norm_ bq35_q3 (hCont (.slice Ao187 t242.length co187, .slice Ao188 t245.length co188, v249, gb252) _ ⟨hHeld, bq63_q3, bq62_q3, bq61_q3, bq59_q3, bq58_q3, bq57_q3, bq56_q3, (by bq1_q3; exact BK197.out), (by bq1_q3; exact BK198.out), (by bq1_q3; exact BK211.out), (by bq1_q3; exact BK215.out), (by bq1_q3; exact BK219.out), (by bq1_q3; exact BK224.out), (by bq1_q3; exact BK252.out), GW252.out, GE252.out, NB197_252.out, NB252_197.out, NB198_252.out, NB252_198.out, NB211_252.out, NB252_211.out, NB215_252.out, NB252_215.out, NB219_252.out, NB252_219.out, NB224_252.out, NB252_224.out, (by repeat bq4_q3)⟩)))
local macro "bq160_q3" : tactic => `(tactic| (clear BK197; clear BK198; clear BK211; clear BK215; clear BK219; clear BK224; clear HB; have HO_212000 := n0_; have HO_216000 := n1_; have HO_220000 := n2_; have HO_225000 := n3_))
local macro "bq161_q3" : tactic => `(tactic| (have n0_ := Aside0.mk bq8_q3; have n1_ := Aside0.mk (below_step bq21_q3 hb); have n2_ := Aside0.mk (hbox); have n3_ := Aside0.mk (bq73_q3); have n4_ := Aside0.mk (bq73_q3); have n5_ := Aside0.mk ((by rw [hg]; exact Nat.ne_of_lt bq13_q3 : gb197 ≠ gb198)); have n6_ := Aside0.mk ((by rw [hg]; exact Nat.ne_of_gt bq13_q3 : gb198 ≠ gb197)); clear BK197; clear HB; have BK197 := n0_; have HB := n1_; have BK198 := n2_; have GW198 := n3_; have GE198 := n4_; have NB197_198 := n5_))
local macro "bq162_q3" : tactic => `(tactic| (refine ⟨_, rfl, ?_⟩; have n0_ := Aside0.mk bq37_q3; have n1_ := Aside0.mk bq38_q3; have n2_ := Aside0.mk bq39_q3; have n3_ := Aside0.mk (Kd.R_reok rfl hy0 (fun k_ e_ => HO_225000.out.1 k_ e_)); have n4_ := Aside0.mk bq81_q3; have n5_ := Aside0.mk bq80_q3; have n6_ := Aside0.mk bq79_q3; have n7_ := Aside0.mk bq78_q3; have n8_ := Aside0.mk bq77_q3; have n9_ := Aside0.mk bq76_q3; have n10_ := Aside0.mk (hb); clear HO_212000; clear HO_216000; clear HO_220000))
local macro "bq163_q3" : tactic => `(tactic| (clear BK197; clear BK198; clear BK211; clear BK215; clear BK219))
local macro "bq164_q3" : tactic => `(tactic| (have n4_ := Aside0.mk (Kd.R_below (by bq2_q3; exact HO_253000.out) hb); have n5_ := Aside0.mk bq8_q3; have n6_ := Aside0.mk bq9_q3; have n7_ := Aside0.mk bq10_q3; have n8_ := Aside0.mk bq16_q3; have n9_ := Aside0.mk bq15_q3; have n10_ := Aside0.mk bq84_q3; have n11_ := Aside0.mk bq83_q3; have n12_ := Aside0.mk (below_step (by repeat bq4_q3) hb); clear HO_212000; clear HO_216000; clear HO_220000; clear HO_225000; clear HO_253000))
local macro "bq165_q3" : tactic => `(tactic| (have HB := n12_; clear n0_ n1_ n2_ n3_ n4_ n5_ n6_ n7_ n8_ n9_ n10_ n11_ n12_; (try clear hb); (try clear hb2); (try clear hk); (try clear hi)))
local macro "bq166_q3" : tactic => `(tactic| (refine goes_ Try.func11 (by kernel_rfl) rfl #[.agg #[.slice A1_0 l1_0.length c1_0]] (by rfl) rfl rfl bq5_q3 ?_))
local macro "bq167_q3" : tactic => `(tactic| (clear HB; have HO203 := n0_; have HO206 := n1_; have HO209 := n2_; have HO214 := n3_; have HO218 := n4_; have HO222 := n5_; have BK197 := n6_; have BK198 := n7_; have BK211 := n8_; have BK215 := n9_; have BK219 := n10_))
local macro "bq168_q3" : tactic => `(tactic| (exact norm_ bq35_q3 (hCont (.slice Ao37 t201.length co37, .slice Ao38 t204.length co38, v208, gb211) _ ⟨hHeld, bq107_q3, bq106_q3, bq105_q3, (by bq1_q3; exact BK197.out), (by bq1_q3; exact BK198.out), (by bq1_q3; exact BK211.out), GW211.out, GE211.out, NB197_211.out, NB211_197.out, NB198_211.out, NB211_198.out, bq6_q3⟩)))
local macro "bq169_q3" : tactic => `(tactic| (refine goes_ Try.func11 (by kernel_rfl) rfl #[.agg #[.slice A0_0 l0_0.length c0_0]] (by rfl) rfl rfl bq5_q3 ?_))
local macro "bq170_q3" : tactic => `(tactic| (have n4_ := Aside0.mk bq8_q3; have n5_ := Aside0.mk bq9_q3; have n6_ := Aside0.mk bq10_q3; have n7_ := Aside0.mk bq16_q3; have n8_ := Aside0.mk bq15_q3; have n9_ := Aside0.mk bq11_q3; have n10_ := Aside0.mk (below_step (by repeat bq3_q3) hb); clear HO_212000; clear HO_216000; clear HO_220000; clear HO_225000))
local macro "bq171_q3" : tactic => `(tactic| (exact ⟨by first | rfl | (simp [errW_none, errW_some] <;> rfl) | (simp [*, errW_none, errW_some] <;> rfl), by repeat bq3_q3⟩))
local macro "bq172_q3" : tactic => `(tactic| (clear HB; have HO_212000 := n0_; have HO_216000 := n1_; have HO_220000 := n2_; have HO_225000 := n3_))
local macro "bq173_q3" : tactic => `(tactic| (have n0_ := Aside0.mk (Kd.R_below (by bq2_q3; exact HO203.out) hb); have n1_ := Aside0.mk (Kd.R_below (by bq2_q3; exact HO206.out) hb); have n2_ := Aside0.mk (Kd.R_below (by bq2_q3; exact HO209.out) hb); have n3_ := Aside0.mk (Kd.R_below (by bq2_q3; exact HO214.out) hb)))
local macro "bq174_q3" : tactic => `(tactic| (have n0_ := Aside0.mk (below_step bq26_q3 hb); have n1_ := Aside0.mk (hbox); have n2_ := Aside0.mk (bq72_q3); have n3_ := Aside0.mk (bq72_q3); clear HB; have HB := n0_; have BK197 := n1_; have GW197 := n2_; have GE197 := n3_; clear n0_ n1_ n2_ n3_; clear hb hbox hg))
local macro "bq175_q3" : tactic => `(tactic| (have n3_ := Aside0.mk (Kd.R_below (by bq2_q3; exact HO_225000.out) hb)))
local macro "bq176_q3" : tactic => `(tactic| (have n2_ := Aside0.mk (Kd.R_below (by bq2_q3; exact HO_220000.out) hb)))
local macro "bq177_q3" : tactic => `(tactic| (have n1_ := Aside0.mk (Kd.R_below (by bq2_q3; exact HO_216000.out) hb)))
local macro "bq178_q3" : tactic => `(tactic| (have n0_ := Aside0.mk (Kd.R_below (by bq2_q3; exact HO_212000.out) hb)))
local macro "bq179_q3" : tactic => `(tactic| (have n0_ := Aside0.mk bq88_q3; have n1_ := Aside0.mk bq87_q3; have n2_ := Aside0.mk bq86_q3; have n3_ := Aside0.mk bq85_q3; have n4_ := Aside0.mk bq91_q3; have n5_ := Aside0.mk bq90_q3; have n6_ := Aside0.mk bq89_q3; have n7_ := Aside0.mk bq133_q3; have n8_ := Aside0.mk bq131_q3; have n9_ := Aside0.mk bq129_q3; have n10_ := Aside0.mk bq127_q3; have n11_ := Aside0.mk bq125_q3; have n12_ := Aside0.mk bq124_q3; have n13_ := Aside0.mk bq120_q3; have n14_ := Aside0.mk (below_step (by repeat bq4_q3) hb)))
local macro "bq180_q3" : tactic => `(tactic| (refine hK.out _ _ ⟨(blk_cell BK215.out 0).trans rfl, (blk_cell BK197.out 0).trans rfl⟩ (fun hHeld => ?_)))
local macro "bq181_q3" : tactic => `(tactic| (have n4_ := Aside0.mk (Kd.R_below (by bq2_q3; exact HO228.out) hb); have n5_ := Aside0.mk (Kd.R_below (by bq2_q3; exact HO232.out) hb); have n6_ := Aside0.mk bq8_q3; have n7_ := Aside0.mk bq9_q3; have n8_ := Aside0.mk bq10_q3; have n9_ := Aside0.mk bq19_q3; have n10_ := Aside0.mk bq24_q3; have n11_ := Aside0.mk bq11_q3; have n12_ := Aside0.mk (below_step (by repeat bq3_q3) hb); clear HO_212000; clear HO_216000; clear HO_220000; clear HO_225000; clear HO228; clear HO232))
local macro "bq182_q3" : tactic => `(tactic| (refine ⟨_, rfl, ?_⟩; have n0_ := Aside0.mk bq97_q3; have n1_ := Aside0.mk bq96_q3; have n2_ := Aside0.mk bq95_q3; have n3_ := Aside0.mk bq94_q3; have n4_ := Aside0.mk bq93_q3; have n5_ := Aside0.mk bq92_q3; have n6_ := Aside0.mk bq134_q3; have n7_ := Aside0.mk bq132_q3; have n8_ := Aside0.mk bq130_q3; have n9_ := Aside0.mk bq128_q3; have n10_ := Aside0.mk bq126_q3; have n11_ := Aside0.mk bq121_q3; have n12_ := Aside0.mk (below_step (by repeat bq3_q3) hb); clear HO203))
local macro "bq183_q3" : tactic => `(tactic| (have f4_ := f1_.symm; have f5_ := f3_.symm; clear f1_ f2_ f3_))
local macro "bq184_q3" : tactic => `(tactic| (refine pure_ (i := 6) (N := some 100) (v := ?_) (a' := ?_) #[true, true, true, true, true, true, true, false, true, false, false] rfl rfl (any_of HT_.out (by kernel_rfl)) (fun _ _ _ h => h) (Or.inl ⟨by rfl, ?_⟩) ?_ ?_))
local macro "bq185_q3" : tactic => `(tactic| (refine pure_ (i := 5) (N := some 94) (v := ?_) (a' := ?_) #[true, true, true, true, true, true, false, false, true, false, false] rfl rfl (any_of HT_.out (by kernel_rfl)) (fun _ _ _ h => h) (Or.inl ⟨by rfl, ?_⟩) ?_ ?_))
local macro "bq186_q3" : tactic => `(tactic| (refine pure_ (i := 5) (N := some 27) (v := ?_) (a' := ?_) #[true, true, true, true, true, true, false, false, true, false, false] rfl rfl (any_of HT_.out (by kernel_rfl)) (fun _ _ _ h => h) (Or.inl ⟨by rfl, ?_⟩) ?_ ?_))
local macro "bq187_q3" : tactic => `(tactic| (refine pure_ (i := 7) (N := some 101) (v := ?_) (a' := ?_) #[true, true, true, true, true, true, true, true, true, false, false] rfl rfl (any_of HT_.out (by kernel_rfl)) (fun _ _ _ h => h) (Or.inl ⟨by rfl, ?_⟩) ?_ ?_))
local macro "bq188_q3" : tactic => `(tactic| (refine pure_ (i := 6) (N := some 33) (v := ?_) (a' := ?_) #[true, true, true, true, true, true, true, false, true, false, false] rfl rfl (any_of HT_.out (by kernel_rfl)) (fun _ _ _ h => h) (Or.inl ⟨by rfl, ?_⟩) ?_ ?_))
local macro "bq189_q3" : tactic => `(tactic| (clear n0_ n1_ n2_ n3_ n4_ n5_ n6_ n7_ n8_ n9_ n10_ n11_ n12_))
local macro "bq190_q3" : tactic => `(tactic| (refine pure_ (i := 7) (N := some 34) (v := ?_) (a' := ?_) #[true, true, true, true, true, true, true, true, true, false, false] rfl rfl (any_of HT_.out (by kernel_rfl)) (fun _ _ _ h => h) (Or.inl ⟨by rfl, ?_⟩) ?_ ?_))
local macro "bq191_q3" : tactic => `(tactic| (exact ⟨by first | rfl | (simp [errW_none, errW_some] <;> rfl) | (simp [*, errW_none, errW_some] <;> rfl), by repeat bq4_q3⟩))
local macro "bq192_q3" : tactic => `(tactic| (have n11_ := Aside0.mk (below_step (by repeat bq3_q3) hb)))
local macro "bq193_q3" : tactic => `(tactic| (refine one_ (i := 4) (N := some 99) #[true, true, true, true, true, false, false, false, true, false, false] rfl rfl (one_of HT_.out (by kernel_rfl)) (by decide) (fun K hK => ?_)))
local macro "bq194_q3" : tactic => `(tactic| (refine one_ (i := 4) (N := some 32) #[true, true, true, true, true, false, false, false, true, false, false] rfl rfl (one_of HT_.out (by kernel_rfl)) (by decide) (fun K hK => ?_)))
local macro "bq195_q3" : tactic => `(tactic| ((with_reducible refine gate_dst (N := 3) rfl ?_); refine box_event ?hg (N := 3) ?hd (cs := #[.slice A1_0 l1_0.length c1_0]) (t := 24) ?hr ?_; (case hd => rfl); (case hg => rfl)))
local macro "bq196_q3" : tactic => `(tactic| ((with_reducible refine gate_dst (N := 2) rfl ?_); refine box_event ?hg (N := 2) ?hd (cs := #[.slice A0_0 l0_0.length c0_0]) (t := 24) ?hr ?_; (case hd => rfl); (case hg => rfl)))
local macro "bq197_q3" : tactic => `(tactic| (refine take_ (i := 0) (N := some 54) (v := ?_) (a' := ?_) #[true, false, false, false, false] rfl rfl (by kernel_rfl) (fun _ _ _ h => h) (Or.inl ⟨by rfl, ?_⟩) hHeld ?_ ?_))
local macro "bq198_q3" : tactic => `(tactic| (refine take_ (i := 1) (N := some 55) (v := ?_) (a' := ?_) #[true, true, false, false, false] rfl rfl (by kernel_rfl) (fun _ _ _ h => h) (Or.inl ⟨by rfl, ?_⟩) hHeld ?_ ?_))
local macro "bq199_q3" : tactic => `(tactic| (refine box_step ?hg (N := 15) ?hd (cs := #[.slice none 0 0]) (t := 26) ?hr ?_; (case hd => rfl); (case hg => rfl)))
local macro "bq200_q3" : tactic => `(tactic| (refine box_step ?hg (N := 6) ?hd (cs := #[.slice none 0 0]) (t := 26) ?hr ?_; (case hd => rfl); (case hg => rfl)))
local macro "bq201_q3" : tactic => `(tactic| (refine pure_ (i := 4) (N := some 58) (v := ?_) (a' := ?_) #[true, true, true, true, true] rfl rfl (by kernel_rfl) (fun _ _ _ h => h) (Or.inl ⟨by rfl, ?_⟩) ?_ ?_))
local macro "bq202_q3" : tactic => `(tactic| (have HO_253000 := n4_; have BK197 := n5_; have BK198 := n6_; have BK211 := n7_; have BK215 := n8_; have BK219 := n9_; have BK224 := n10_; have BK252 := n11_))
local macro "bq203_q3" : tactic => `(tactic| (refine hK.out _ _ ⟨(blk_cell BK219.out 0).trans rfl, (blk_cell BK198.out 0).trans rfl⟩ (fun hHeld => ?_)))
local macro "bq204_q3" : tactic => `(tactic| (refine goes_ Try.func12 (by kernel_rfl) rfl #[.agg #[.slice Ao187 t242.length co187], .agg #[.slice Ao188 t245.length co188]] (by rfl) rfl rfl bq5_q3 ?_))
local macro "bq205_q3" : tactic => `(tactic| (refine goes_ Try.func10 (by kernel_rfl) rfl #[.agg #[.slice Ao37 t201.length co37], .agg #[.slice Ao38 t204.length co38]] (by rfl) rfl rfl bq5_q3 ?_))
local macro "bq206_q3" : tactic => `(tactic| ((try clear hb2); (try clear hk); (try clear hi)))
local macro "bq207_q3" : tactic => `(tactic| (refine goesL_ (some 19) rfl rfl Try.func9 (by kernel_rfl) rfl #[.agg #[.slice A0_0 l0_0.length c0_0], .int .i64 1048576] rfl bq5_q3 ?_))
local macro "bq208_q3" : tactic => `(tactic| (have n12_ := Aside0.mk (below_step (by repeat bq3_q3) hb)))
local macro "bq209_q3" : tactic => `(tactic| (refine goesL_ (some 88) rfl rfl Try.func15 (by kernel_rfl) rfl #[.agg #[.slice Ao65 t240.length co65], .int .i64 1] rfl bq51_q3 ?_))
local macro "bq210_q3" : tactic => `(tactic| (clear n0_ n1_ n2_ n3_ n4_ n5_ n6_ n7_ n8_ n9_ n10_ n11_))
local macro "bq211_q3" : tactic => `(tactic| (refine goesL_ (some 113) rfl rfl Try.func15 (by kernel_rfl) rfl #[.agg #[.slice Ao65 t240.length co65], .int .i64 1] rfl bq5_q3 ?_))
local macro "bq212_q3" : tactic => `(tactic| (refine goesL_ (some 85) rfl rfl Try.func14 (by kernel_rfl) rfl #[.agg #[.slice Ao65 t220.length co65], .int .i64 1] rfl bq5_q3 ?_))
local macro "bq213_q3" : tactic => `(tactic| (clear BK197; clear BK198; clear BK211; clear BK215; clear HB; have HO203 := n0_; have HO206 := n1_; have HO209 := n2_; have HO214 := n3_; have HO218 := n4_; have BK197 := n5_; have BK198 := n6_; have BK211 := n7_; have BK215 := n8_; have HB := n9_))
local macro "bq214_q3" : tactic => `(tactic| (have n4_ := Aside0.mk (Kd.R_below (by bq2_q3; exact HO228.out) hb)))
local macro "bq215_q3" : tactic => `(tactic| (refine one_ (i := 2) (N := some 56) #[true, true, true, false, false] rfl rfl (by kernel_rfl) (by decide) (fun K hK => ?_)))
local macro "bq216_q3" : tactic => `(tactic| (refine one_ (i := 3) (N := some 57) #[true, true, true, true, false] rfl rfl (by kernel_rfl) (by decide) (fun K hK => ?_)))
local macro "bq217_q3" : tactic => `(tactic| (refine goesL_ (some 24) rfl rfl Try.func9 (by kernel_rfl) rfl #[.agg #[.slice A1_0 l1_0.length c1_0], .int .i64 t199] rfl bq5_q3 ?_; (with_reducible refine (laws_szPoset.calls _ _ l1_0 t199 t200 _ ?side1 ?side2 A10.out).mono ?_)))
local macro "bq218_q3" : tactic => `(tactic| (have HO244 := n4_; have HO247 := n5_; have HO250 := n6_; have BK197 := n7_; have BK198 := n8_; have BK211 := n9_; have BK215 := n10_; have BK219 := n11_; have BK224 := n12_; have BK252 := n13_; have HB := n14_))
local macro "bq219_q3" : tactic => `(tactic| (clear BK197; clear BK198; clear BK211; clear HB; have HO203 := n0_; have HO206 := n1_; have HO209 := n2_; have HO214 := n3_; have BK197 := n4_; have BK198 := n5_; have BK211 := n6_; have HB := n7_))
local macro "bq220_q3" : tactic => `(tactic| (clear HO_212000; clear HO_216000; clear HO_220000; clear HO_225000))
local macro "bq221_q3" : tactic => `(tactic| (refine one_ (i := 3) (N := some 98) #[true, true, true, true, false, false, false, false, true, false, false] rfl rfl (one_of HT_.out (by kernel_rfl)) (by decide) (fun K hK => ?_)))
local macro "bq222_q3" : tactic => `(tactic| (refine one_ (i := 3) (N := some 31) #[true, true, true, true, false, false, false, false, true, false, false] rfl rfl (one_of HT_.out (by kernel_rfl)) (by decide) (fun K hK => ?_)))
local macro "bq223_q3" : tactic => `(tactic| (clear HO206; clear HO209; clear HO214; clear HO218))
local macro "bq224_q3" : tactic => `(tactic| (refine one_ (i := 9) (N := none) #[true, true, true, true, true, true, true, true, true, true, false] rfl rfl (one_of HT_.out (by kernel_rfl)) (by decide) (fun K hK => ?_)))
local macro "bq225_q3" : tactic => `(tactic| (refine take_ (i := 0) (N := some 59) (v := ?_) (a' := ?_) #[true, false, false, false, false] rfl rfl (by kernel_rfl) (fun _ _ _ h => h) (Or.inl ⟨by rfl, ?_⟩) hHeld ?_ ?_))
local macro "bq226_q3" : tactic => `(tactic| (refine take_ (i := 1) (N := some 60) (v := ?_) (a' := ?_) #[true, true, false, false, false] rfl rfl (by kernel_rfl) (fun _ _ _ h => h) (Or.inl ⟨by rfl, ?_⟩) hHeld ?_ ?_))
local macro "bq227_q3" : tactic => `(tactic| (clear n0_ n1_ n2_ n3_ n4_ n5_ n6_ n7_ n8_ n9_ n10_ n11_ n12_ n13_ n14_))
local macro "bq228_q3" : tactic => `(tactic| (have BK197 := n4_; have BK198 := n5_; have BK211 := n6_; have BK215 := n7_; have BK219 := n8_; have BK224 := n9_; have HO228 := n10_; have HO232 := n11_; have HB := n12_))
local macro "bq229_q3" : tactic => `(tactic| (refine pure_ (i := 4) (N := some 63) (v := ?_) (a' := ?_) #[true, true, true, true, true] rfl rfl (by kernel_rfl) (fun _ _ _ h => h) (Or.inl ⟨by rfl, ?_⟩) ?_ ?_))
local macro "bq230_q3" : tactic => `(tactic| (refine goesL_ (some 104) rfl rfl Try.func13 (by kernel_rfl) rfl #[.agg #[.slice Ao191 t248.length co191], .agg #[.slice Ao41 t207.length co41]] rfl bq5_q3 ?_))
local macro "bq231_q3" : tactic => `(tactic| (refine goesL_ (some 47) rfl rfl Try.func13 (by kernel_rfl) rfl #[.agg #[.slice Ao65 t220.length co65], .agg #[.slice Ao41 t207.length co41]] rfl bq5_q3 ?_))
local macro "bq232_q3" : tactic => `(tactic| ((case side1 => repeat bq3_q3); (case side2 => exact Kd.R_tight rfl HO_225000.out)))
local macro "bq233_q3" : tactic => `(tactic| (have HO228 := n4_; have HO232 := n5_; have BK197 := n6_; have BK198 := n7_; have BK211 := n8_; have BK215 := n9_; have BK219 := n10_; have BK224 := n11_))
local macro "bq234_q3" : tactic => `(tactic| (have n6_ := Aside0.mk (Kd.R_lower bq68_q3 (below_size (by repeat bq4_q3)))))
local macro "bq235_q3" : tactic => `(tactic| (have NB198_197 := n6_; clear n0_ n1_ n2_ n3_ n4_ n5_ n6_; clear hb hbox hg))
local macro "bq236_q3" : tactic => `(tactic| (have H1 : (some false) = some r := by rw [if_pos rfl] at H; exact H))
local macro "bq237_q3" : tactic => `(tactic| (have n5_ := Aside0.mk (Kd.R_lower (Kd.R_new' bq12_q3 (Kd.R_lt (by bq2_q3; exact HO244.out))) (below_size (by repeat bq4_q3)))))
local macro "bq238_q3" : tactic => `(tactic| (have n5_ := Aside0.mk (Kd.R_lower (Kd.R_new' bq12_q3 (Kd.R_lt (by bq2_q3; exact HO228.out))) (below_size (by repeat bq3_q3)))))
local macro "bq239_q3" : tactic => `(tactic| (have n4_ := Aside0.mk (Kd.R_below (by bq2_q3; exact HO244.out) hb)))
local macro "bq240_q3" : tactic => `(tactic| (have n0_ := Aside0.mk (Kd.R_below (by bq2_q3; exact HO203.out) hb)))
local macro "bq241_q3" : tactic => `(tactic| (exact ⟨by first | rfl | (simp [errW_none, errW_some] <;> rfl) | (simp [*, errW_none, errW_some] <;> rfl), by repeat bq7_q3⟩))
local macro "bq242_q3" : tactic => `(tactic| (refine one_ (i := 2) (N := some 61) #[true, true, true, false, false] rfl rfl (by kernel_rfl) (by decide) (fun K hK => ?_)))
local macro "bq243_q3" : tactic => `(tactic| (refine one_ (i := 3) (N := some 62) #[true, true, true, true, false] rfl rfl (by kernel_rfl) (by decide) (fun K hK => ?_)))
local macro "bq244_q3" : tactic => `(tactic| (have n2_ := Aside0.mk (Kd.R_lower bq70_q3 (below_size bq6_q3))))
local macro "bq245_q3" : tactic => `(tactic| (clear n0_ n1_ n2_ n3_ n4_ n5_ n6_ n7_ n8_ n9_ n10_ n11_ n12_ n13_ n14_ n15_ n16_ n17_ n18_ n19_ n20_ n21_ n22_ n23_ n24_ n25_ n26_ n27_ n28_))
local macro "bq246_q3" : tactic => `(tactic| (clear n0_ n1_ n2_ n3_ n4_ n5_ n6_ n7_ n8_ n9_ n10_ n11_ n12_ n13_))
set_option hygiene true
set_option maxHeartbeats 8000000 in
set_option maxRecDepth 100000 in
theorem laws_FnExactSumOf.calls (k : Nat) (A0_0 : Option Addr) (c0_0 : Nat) (l0_0 : List Int) (A1_0 : Option Addr) (c1_0 : Nat) (l1_0 : List Int) (r : Bool) (w : World) (hr0_0 : Kd.C (Kd.int .i64) w A0_0 l0_0.length l0_0) (hc0_0 : l0_0.length ≤ c0_0) (hr1_0 : Kd.C (Kd.int .i64) w A1_0 l1_0.length l1_0) (hc1_0 : l1_0.length ≤ c1_0) (h : laws_FnExactSumOf.f k l0_0 l1_0 = some r) :
    Calls Try.prog 3 #[.agg #[.slice A0_0 l0_0.length c0_0], .agg #[.slice A1_0 l1_0.length c1_0]] w fun e w' => e = .returned (.bool r) ∧ Below w.heap.size w w' := by
  have hu24 := Try.underlying24
  have hu26 := Try.underlying26
  have HR0_0 := Aside0.mk hr0_0
  have HC0_0 := Aside0.mk hc0_0
  clear hr0_0 hc0_0
  have HR1_0 := Aside0.mk hr1_0
  have HC1_0 := Aside0.mk hc1_0
  clear hr1_0 hc1_0
  have HB := Aside0.mk (Below.refl w.heap.size w)
  have H : ((laws_szPoset.f l0_0 1048576).bind fun t199 => (if t199 < 0 then (some true) else ((laws_szPoset.f l1_0 t199).bind fun t200 => (if t200 < 0 then (some true) else ((laws_toPoset.f k l0_0).bind fun t201 => ((laws_toPoset.f k l1_0).bind fun t204 => ((spec_SumOf.f k t201 t204).bind fun bt207 => ((laws_toPoset.f k l0_0).bind fun t212 => ((laws_toPoset.f k l1_0).bind fun t216 => ((impl_SumOf.f k t212 t216).bind fun bt220 => ((laws_eqPoset.f k bt220.1 bt207.1).bind fun t225 => (if t225 = true then (laws_FnExactSumOf.j0 k bt207.2 bt220.2 (bt220.2 != bt207.2) l0_0 l1_0 bt207.1 t212 t216 bt220.1) else (laws_FnExactSumOf.j0 k bt207.2 bt220.2 true l0_0 l1_0 bt207.1 t212 t216 bt220.1))))))))))))) = some r := h
  clear h
  replace H := Option.bind_eq_some_iff.mp H
  obtain ⟨t199, A30, H⟩ := H
  replace H : (if t199 < 0 then (some true) else ((laws_szPoset.f l1_0 t199).bind fun t200 => (if t200 < 0 then (some true) else ((laws_toPoset.f k l0_0).bind fun t201 => ((laws_toPoset.f k l1_0).bind fun t204 => ((spec_SumOf.f k t201 t204).bind fun bt207 => ((laws_toPoset.f k l0_0).bind fun t212 => ((laws_toPoset.f k l1_0).bind fun t216 => ((impl_SumOf.f k t212 t216).bind fun bt220 => ((laws_eqPoset.f k bt220.1 bt207.1).bind fun t225 => (if t225 = true then (laws_FnExactSumOf.j0 k bt207.2 bt220.2 (bt220.2 != bt207.2) l0_0 l1_0 bt207.1 t212 t216 bt220.1) else (laws_FnExactSumOf.j0 k bt207.2 bt220.2 true l0_0 l1_0 bt207.1 t212 t216 bt220.1)))))))))))) = some r := H
  have A3 := Aside0.mk A30
  clear A30
  by_cases c4 : t199 < 0
  · rw [if_pos c4] at H
    have c4b0 : decide (t199 < 0) = true := decide_eq_true c4
    clear c4
    obtain rfl := Option.some.inj H
    go_enter Try.func3, Try.ntmps3
    go_wp2_with (first | (bq196_q3; bq31_q3; intro gb197 hg w5 hbox hb; bq174_q3) | (bq195_q3; bq31_q3; intro gb198 hg w6 hbox hb; bq161_q3; bq235_q3; have hnb7 := NB197_198.out; have hnc7 := NB198_197.out; have hcz8_0 : w6.cell? ⟨gb197, 0, none⟩ = some (.slice A0_0 l0_0.length c0_0) := (blk_cell BK197.out 0).trans rfl; have hfz8_0 := blk_frozen BK197.out 0) | (bq109_q3; bq207_q3; bq104_q3; bq18_q3; (case side2 => exact HC0_0.out); rintro e w9 ⟨rfl, hb⟩; bq158_q3))
    go_ret
    bq241_q3
  · rw [if_neg c4] at H
    have c4b0 : decide (t199 < 0) = false := decide_eq_false c4
    clear c4
    replace H := Option.bind_eq_some_iff.mp H
    obtain ⟨t200, A100, H⟩ := H
    replace H : (if t200 < 0 then (some true) else ((laws_toPoset.f k l0_0).bind fun t201 => ((laws_toPoset.f k l1_0).bind fun t204 => ((spec_SumOf.f k t201 t204).bind fun bt207 => ((laws_toPoset.f k l0_0).bind fun t212 => ((laws_toPoset.f k l1_0).bind fun t216 => ((impl_SumOf.f k t212 t216).bind fun bt220 => ((laws_eqPoset.f k bt220.1 bt207.1).bind fun t225 => (if t225 = true then (laws_FnExactSumOf.j0 k bt207.2 bt220.2 (bt220.2 != bt207.2) l0_0 l1_0 bt207.1 t212 t216 bt220.1) else (laws_FnExactSumOf.j0 k bt207.2 bt220.2 true l0_0 l1_0 bt207.1 t212 t216 bt220.1)))))))))) = some r := H
    have A10 := Aside0.mk A100
    clear A100
    by_cases c11 : t200 < 0
    · rw [if_pos c11] at H
      have c11b0 : decide (t200 < 0) = true := decide_eq_true c11
      clear c11
      obtain rfl := Option.some.inj H
      go_enter Try.func3, Try.ntmps3
      go_wp2_with (first | (bq196_q3; bq31_q3; intro gb197 hg w12 hbox hb; bq174_q3) | (bq195_q3; bq31_q3; intro gb198 hg w13 hbox hb; bq161_q3; bq235_q3; have hnb14 := NB197_198.out; have hnc14 := NB198_197.out; have hcz15_0 : w13.cell? ⟨gb197, 0, none⟩ = some (.slice A0_0 l0_0.length c0_0) := (blk_cell BK197.out 0).trans rfl; have hfz15_0 := blk_frozen BK197.out 0) | (bq109_q3; bq207_q3; bq104_q3; bq18_q3; (case side2 => exact HC0_0.out); rintro e w16 ⟨rfl, hb⟩; bq158_q3; have hcz17_0 : w16.cell? ⟨gb198, 0, none⟩ = some (.slice A1_0 l1_0.length c1_0) := (blk_cell BK198.out 0).trans rfl; have hfz17_0 := blk_frozen BK198.out 0) | (bq109_q3; bq217_q3; bq17_q3; (case side2 => exact HC1_0.out); rintro e w18 ⟨rfl, hb⟩; bq158_q3))
      go_ret
      bq241_q3
    · rw [if_neg c11] at H
      have c11b0 : decide (t200 < 0) = false := decide_eq_false c11
      clear c11
      replace H := Option.bind_eq_some_iff.mp H
      obtain ⟨t201, A190, H⟩ := H
      replace H : ((laws_toPoset.f k l1_0).bind fun t204 => ((spec_SumOf.f k t201 t204).bind fun bt207 => ((laws_toPoset.f k l0_0).bind fun t212 => ((laws_toPoset.f k l1_0).bind fun t216 => ((impl_SumOf.f k t212 t216).bind fun bt220 => ((laws_eqPoset.f k bt220.1 bt207.1).bind fun t225 => (if t225 = true then (laws_FnExactSumOf.j0 k bt207.2 bt220.2 (bt220.2 != bt207.2) l0_0 l1_0 bt207.1 t212 t216 bt220.1) else (laws_FnExactSumOf.j0 k bt207.2 bt220.2 true l0_0 l1_0 bt207.1 t212 t216 bt220.1)))))))) = some r := H
      have A19 := Aside0.mk A190
      clear A190
      replace H := Option.bind_eq_some_iff.mp H
      obtain ⟨t204, A200, H⟩ := H
      replace H : ((spec_SumOf.f k t201 t204).bind fun bt207 => ((laws_toPoset.f k l0_0).bind fun t212 => ((laws_toPoset.f k l1_0).bind fun t216 => ((impl_SumOf.f k t212 t216).bind fun bt220 => ((laws_eqPoset.f k bt220.1 bt207.1).bind fun t225 => (if t225 = true then (laws_FnExactSumOf.j0 k bt207.2 bt220.2 (bt220.2 != bt207.2) l0_0 l1_0 bt207.1 t212 t216 bt220.1) else (laws_FnExactSumOf.j0 k bt207.2 bt220.2 true l0_0 l1_0 bt207.1 t212 t216 bt220.1))))))) = some r := H
      have A20 := Aside0.mk A200
      clear A200
      replace H := Option.bind_eq_some_iff.mp H
      obtain ⟨⟨t207, t210⟩, A210, H⟩ := H
      replace H : ((laws_toPoset.f k l0_0).bind fun t212 => ((laws_toPoset.f k l1_0).bind fun t216 => ((impl_SumOf.f k t212 t216).bind fun bt220 => ((laws_eqPoset.f k bt220.1 t207).bind fun t225 => (if t225 = true then (laws_FnExactSumOf.j0 k t210 bt220.2 (bt220.2 != t210) l0_0 l1_0 t207 t212 t216 bt220.1) else (laws_FnExactSumOf.j0 k t210 bt220.2 true l0_0 l1_0 t207 t212 t216 bt220.1)))))) = some r := H
      have A21 := Aside0.mk A210
      clear A210
      replace H := Option.bind_eq_some_iff.mp H
      obtain ⟨t212, A220, H⟩ := H
      replace H : ((laws_toPoset.f k l1_0).bind fun t216 => ((impl_SumOf.f k t212 t216).bind fun bt220 => ((laws_eqPoset.f k bt220.1 t207).bind fun t225 => (if t225 = true then (laws_FnExactSumOf.j0 k t210 bt220.2 (bt220.2 != t210) l0_0 l1_0 t207 t212 t216 bt220.1) else (laws_FnExactSumOf.j0 k t210 bt220.2 true l0_0 l1_0 t207 t212 t216 bt220.1))))) = some r := H
      have A22 := Aside0.mk A220
      clear A220
      replace H := Option.bind_eq_some_iff.mp H
      obtain ⟨t216, A230, H⟩ := H
      replace H : ((impl_SumOf.f k t212 t216).bind fun bt220 => ((laws_eqPoset.f k bt220.1 t207).bind fun t225 => (if t225 = true then (laws_FnExactSumOf.j0 k t210 bt220.2 (bt220.2 != t210) l0_0 l1_0 t207 t212 t216 bt220.1) else (laws_FnExactSumOf.j0 k t210 bt220.2 true l0_0 l1_0 t207 t212 t216 bt220.1)))) = some r := H
      have A23 := Aside0.mk A230
      clear A230
      replace H := Option.bind_eq_some_iff.mp H
      obtain ⟨⟨t220, t223⟩, A240, H⟩ := H
      replace H : ((laws_eqPoset.f k t220 t207).bind fun t225 => (if t225 = true then (laws_FnExactSumOf.j0 k t210 t223 (t223 != t210) l0_0 l1_0 t207 t212 t216 t220) else (laws_FnExactSumOf.j0 k t210 t223 true l0_0 l1_0 t207 t212 t216 t220))) = some r := H
      have A24 := Aside0.mk A240
      clear A240
      have HC25 := Aside0.mk H
      clear H
      go_enter Try.func3, Try.ntmps3
      try go_wp2_with (first | (bq196_q3; bq31_q3; intro gb197 hg w26 hbox hb; bq174_q3) | (bq195_q3; bq31_q3; intro gb198 hg w27 hbox hb; bq161_q3; bq235_q3; have hnb28 := NB197_198.out; have hnc28 := NB198_197.out; have hcz29_0 : w27.cell? ⟨gb197, 0, none⟩ = some (.slice A0_0 l0_0.length c0_0) := (blk_cell BK197.out 0).trans rfl; have hfz29_0 := blk_frozen BK197.out 0) | (bq109_q3; bq207_q3; bq104_q3; bq18_q3; (case side2 => exact HC0_0.out); rintro e w30 ⟨rfl, hb⟩; bq158_q3; have hcz31_0 : w30.cell? ⟨gb198, 0, none⟩ = some (.slice A1_0 l1_0.length c1_0) := (blk_cell BK198.out 0).trans rfl; have hfz31_0 := blk_frozen BK198.out 0) | (bq109_q3; bq217_q3; bq17_q3; (case side2 => exact HC1_0.out); rintro e w32 ⟨rfl, hb⟩; bq158_q3))
      have n0_ := Aside0.mk (blk_drew BK197.out)
      have n1_ := Aside0.mk (blk_drew BK198.out)
      have n2_ := Aside0.mk (below_drew1 HB.out)
      clear BK197
      clear BK198
      clear HB
      have BK197 := n0_
      have BK198 := n1_
      have HB := n2_
      clear n0_ n1_ n2_
      refine start_ (n := 11) (S := fun w' => w'.cell? ⟨gb197, 0, none⟩ = some (.slice A0_0 l0_0.length c0_0) ∧ w'.cell? ⟨gb198, 0, none⟩ = some (.slice A1_0 l1_0.length c1_0)) (ds := []) #[false, false, false, false, false, false, false, false, false, false, false] (by kernel_rfl) rfl rfl ⟨(blk_cell BK197.out 0).trans rfl, (blk_cell BK198.out 0).trans rfl⟩ (fun hHeld => ?_); refine with_tabW laws_FnExactSumOf.tab8 laws_FnExactSumOf.bits8 (fun HT_ HW_ => ?_)
      generalize w32.drew = w33 at BK197 BK198 HB hHeld ⊢
      refine take_ (i := 0) (N := some 28) (v := ?_) (a' := ?_) #[true, false, false, false, false, false, false, false, false, false, false] rfl rfl (take_ofW HT_.out HW_.out (by kernel_rfl)) (fun _ _ _ h => h) (Or.inl ⟨by rfl, ?_⟩) hHeld ?_ ?_
      rotate_left
      · rintro w' ⟨s0, s1⟩
        go_simp
        with_reducible rfl
      rotate_left
      · bq154_q3
        rfl
      refine take_ (i := 2) (N := some 30) (v := ?_) (a' := ?_) #[true, false, true, false, false, false, false, false, false, false, false] rfl rfl (take_ofW HT_.out HW_.out (by kernel_rfl)) (fun _ _ _ h => h) (Or.inl ⟨by rfl, ?_⟩) hHeld ?_ ?_
      rotate_left
      · rintro w' ⟨s0, s1⟩
        go_simp
        with_reducible rfl
      rotate_left
      · bq154_q3
        rfl
      refine join_ (σ := Value × Value × Value × Nat) 2 #[true, true, true, true, true, true, true, true, true, false, false] (fun s_ => [(29, .agg #[s_.1]), (31, .agg #[s_.2.1]), (32, .tuple #[.agg #[s_.2.2.1], .bool t210]), (6, .pointer (some ⟨s_.2.2.2, 0, none⟩)), (27, .tuple #[.agg #[s_.2.2.1], .bool t210]), (33, .agg #[s_.2.2.1]), (34, .bool t210)]) (fun s_ w' => (w'.cell? ⟨gb197, 0, none⟩ = some (.slice A0_0 l0_0.length c0_0) ∧ w'.cell? ⟨gb198, 0, none⟩ = some (.slice A1_0 l1_0.length c1_0)) ∧ (Kd.R (Kd.int .i64) 3 w' w.heap.size (fun k_ => some k_ ≠ (s_.2.1 : Value).ownBlock ∧ some k_ ≠ (s_.2.2.1 : Value).ownBlock) s_.1 t201) ∧ (Kd.R (Kd.int .i64) 3 w' w.heap.size (fun k_ => some k_ ≠ (s_.1 : Value).ownBlock ∧ some k_ ≠ (s_.2.2.1 : Value).ownBlock) s_.2.1 t204) ∧ (Kd.R (Kd.int .i64) 3 w' w.heap.size (fun k_ => some k_ ≠ (s_.1 : Value).ownBlock ∧ some k_ ≠ (s_.2.1 : Value).ownBlock) s_.2.2.1 t207) ∧ (w'.heap[gb197]? = some (.cells #[.slice A0_0 l0_0.length c0_0] 24 (0, 0))) ∧ (w'.heap[gb198]? = some (.cells #[.slice A1_0 l1_0.length c1_0] 24 (0, 0))) ∧ (w'.heap[s_.2.2.2]? = some (.cells #[.slice none 0 0] 26 (0, 0))) ∧ (w.heap.size ≤ s_.2.2.2) ∧ (w.heap.size ≤ s_.2.2.2) ∧ (gb197 ≠ s_.2.2.2) ∧ (s_.2.2.2 ≠ gb197) ∧ (gb198 ≠ s_.2.2.2) ∧ (s_.2.2.2 ≠ gb198) ∧ (Below w.heap.size w w')) ?_ ?_
      rotate_left
      · intro hCont
        refine two_ (i := 1) (j := 8) (Ni := some 29) (Nj := some 6) #[true, true, true, false, false, false, false, false, false, false, false] #[true, false, true, false, false, false, false, false, true, false, false] rfl rfl rfl rfl (two_of HT_.out (by kernel_rfl)) (by decide) (by decide) (fun K hK => ?_) (fun K hK => ?_)
        · skip
          bq169_q3
          with_reducible refine (laws_toPoset.calls k _ _ l0_0 t201 _ ?side1 ?side2 A19.out).mono ?_
          bq18_q3
          (case side2 => exact HC0_0.out)
          rintro e w34 ⟨v202, rfl, ho0, hb⟩
          refine ⟨_, rfl, ?_⟩
          have n0_ := Aside0.mk (Kd.R_lower ho0 (below_size (by repeat bq7_q3)))
          have n1_ := Aside0.mk bq8_q3
          have n2_ := Aside0.mk bq9_q3
          have n3_ := Aside0.mk (below_step (by repeat bq7_q3) hb)
          clear BK197
          clear BK198
          clear HB
          have HO203 := n0_
          have BK197 := n1_
          have BK198 := n2_
          have HB := n3_
          clear n0_ n1_ n2_ n3_
          (try clear hb)
          (try clear hb2)
          (try clear hk)
          (try clear hi)
          (try clear ho0)
          bq155_q3
          clear hK K
          refine norm_ (a' := ?_) ?_ ?_
          rotate_left
          · show Act.put _ (some 29) _ = _
            bq154_q3
            rfl
          refine two_ (i := 3) (j := 8) (Ni := some 31) (Nj := some 6) #[true, true, true, true, false, false, false, false, false, false, false] #[true, true, true, false, false, false, false, false, true, false, false] rfl rfl rfl rfl (two_of HT_.out (by kernel_rfl)) (by decide) (by decide) (fun K hK => ?_) (fun K hK => ?_)
          · skip
            bq166_q3
            with_reducible refine (laws_toPoset.calls k _ _ l1_0 t204 _ ?side1 ?side2 A20.out).mono ?_
            bq17_q3
            (case side2 => exact HC1_0.out)
            rintro e w35 ⟨v205, rfl, ho0, hb⟩
            refine ⟨_, rfl, ?_⟩
            have n0_ := Aside0.mk bq67_q3
            have n1_ := Aside0.mk (Kd.R_lower (Kd.R_new' ho0 (Kd.R_lt (by bq2_q3; exact HO203.out))) (below_size (by repeat bq7_q3)))
            have n2_ := Aside0.mk bq8_q3
            have n3_ := Aside0.mk bq9_q3
            have n4_ := Aside0.mk (below_step (by repeat bq7_q3) hb)
            clear HO203
            clear BK197
            clear BK198
            clear HB
            have HO203 := n0_
            have HO206 := n1_
            have BK197 := n2_
            have BK198 := n3_
            have HB := n4_
            clear n0_ n1_ n2_ n3_ n4_
            (try clear hb)
            (try clear hb2)
            (try clear hk)
            (try clear hi)
            (try clear ho0)
            obtain ⟨Ao36, co36, eo36⟩ := Kd.R_slice HO203.out
            (first | subst eo36 | (injection eo36 with f1_ f2_ f3_; bq183_q3; subst f4_; subst f5_))
            obtain ⟨Ao37, co37, eo37⟩ := Kd.R_slice HO206.out
            bq53_q3
            bq155_q3
            clear hK K
            refine norm_ (a' := ?_) ?_ ?_
            rotate_left
            · show Act.put _ (some 31) _ = _
              bq154_q3
              rfl
            refine two_ (i := 4) (j := 8) (Ni := some 32) (Nj := some 6) #[true, true, true, true, true, false, false, false, false, false, false] #[true, true, true, true, false, false, false, false, true, false, false] rfl rfl rfl rfl (two_of HT_.out (by kernel_rfl)) (by decide) (by decide) (fun K hK => ?_) (fun K hK => ?_)
            · skip
              refine goes_ Try.func10 (by kernel_rfl) rfl #[.agg #[.slice Ao36 t201.length co36], .agg #[.slice Ao37 t204.length co37]] (by rfl) rfl rfl bq5_q3 ?_
              with_reducible refine (spec_SumOf.calls k _ _ t201 _ _ t204 t207 t210 _ ?side1 ?side2 ?side3 ?side4 A21.out).mono ?_
              bq46_q3
              (case side2 => exact (Kd.R_reads' HO203.out).2.1)
              bq44_q3
              (case side4 => exact (Kd.R_reads' HO206.out).2.1)
              rintro e w38 ⟨v208, rfl, ho0, hb⟩
              refine ⟨_, rfl, ?_⟩
              have n0_ := Aside0.mk bq67_q3
              have n1_ := Aside0.mk bq123_q3
              have n2_ := Aside0.mk (Kd.R_lower bq70_q3 (below_size (by repeat bq7_q3)))
              have n3_ := Aside0.mk bq8_q3
              have n4_ := Aside0.mk bq9_q3
              have n5_ := Aside0.mk (below_step (by repeat bq7_q3) hb)
              clear HO203
              clear HO206
              clear BK197
              clear BK198
              clear HB
              have HO203 := n0_
              have HO206 := n1_
              have HO209 := n2_
              have BK197 := n3_
              have BK198 := n4_
              have HB := n5_
              clear n0_ n1_ n2_ n3_ n4_ n5_
              (try clear hb)
              (try clear hb2)
              (try clear hk)
              (try clear hi)
              (try clear ho0)
              bq155_q3
              clear hK K
              refine norm_ (a' := ?_) ?_ ?_
              rotate_left
              · show Act.put _ (some 32) _ = _
                bq154_q3
                rfl
              refine pure_ (i := 5) (N := some 27) (v := ?_) (a' := ?_) #[true, true, true, true, true, true, false, false, false, false, false] rfl rfl (any_of HT_.out (by kernel_rfl)) (fun _ _ _ h => h) (Or.inl ⟨by rfl, ?_⟩) ?_ ?_
              rotate_left
              · intro w'
                go_simp
                with_reducible rfl
              rotate_left
              · bq154_q3
                rfl
              refine pure_ (i := 6) (N := some 33) (v := ?_) (a' := ?_) #[true, true, true, true, true, true, true, false, false, false, false] rfl rfl (any_of HT_.out (by kernel_rfl)) (fun _ _ _ h => h) (Or.inl ⟨by rfl, ?_⟩) ?_ ?_
              rotate_left
              · intro w'
                go_simp
                with_reducible rfl
              rotate_left
              · bq154_q3
                rfl
              refine pure_ (i := 7) (N := some 34) (v := ?_) (a' := ?_) #[true, true, true, true, true, true, true, true, false, false, false] rfl rfl (any_of HT_.out (by kernel_rfl)) (fun _ _ _ h => h) (Or.inl ⟨by rfl, ?_⟩) ?_ ?_
              rotate_left
              · intro w'
                go_simp
                with_reducible rfl
              rotate_left
              · bq154_q3
                rfl
              refine one_ (i := 8) (N := some 6) #[true, true, true, true, true, true, true, true, true, false, false] rfl rfl (one_of HT_.out (by kernel_rfl)) (by decide) (fun K hK => ?_)
              bq200_q3; bq31_q3
              intro gb211 hg w39 hbox hb
              bq240_q3
              have n1_ := Aside0.mk (Kd.R_below (by bq2_q3; exact HO206.out) hb)
              have n2_ := Aside0.mk (Kd.R_below (by bq2_q3; exact HO209.out) hb)
              have n3_ := Aside0.mk bq8_q3
              have n4_ := Aside0.mk bq9_q3
              have n5_ := Aside0.mk (below_step (by repeat bq7_q3) hb)
              have n6_ := Aside0.mk (hbox)
              have n7_ := Aside0.mk (bq47_q3)
              have n8_ := Aside0.mk (bq47_q3)
              have n9_ := Aside0.mk (bq142_q3)
              have n10_ := Aside0.mk (bq150_q3)
              have n11_ := Aside0.mk (bq140_q3)
              have n12_ := Aside0.mk (bq148_q3)
              clear HO203
              clear HO206
              clear HO209
              clear BK197
              clear BK198
              clear HB
              have HO203 := n0_
              have HO206 := n1_
              have HO209 := n2_
              have BK197 := n3_
              have BK198 := n4_
              have HB := n5_
              have BK211 := n6_
              have GW211 := n7_
              have GE211 := n8_
              have NB197_211 := n9_
              have NB211_197 := n10_
              have NB198_211 := n11_
              have NB211_198 := n12_
              bq189_q3
              clear hb hbox hg
              bq155_q3
              clear hK K
              refine norm_ (a' := ?_) ?_ ?_
              rotate_left
              · show Act.put _ (some 6) _ = _
                bq154_q3
                rfl
              exact norm_ bq35_q3 (hCont (.slice Ao36 t201.length co36, .slice Ao37 t204.length co37, v208, gb211) _ ⟨hHeld, bq107_q3, bq106_q3, bq105_q3, (by bq1_q3; exact BK197.out), (by bq1_q3; exact BK198.out), (by bq1_q3; exact BK211.out), GW211.out, GE211.out, NB197_211.out, NB211_197.out, NB198_211.out, NB211_198.out, bq6_q3⟩)
            · skip
              bq200_q3; bq31_q3
              intro gb211 hg w36 hbox hb
              bq240_q3
              have n1_ := Aside0.mk (Kd.R_below (by bq2_q3; exact HO206.out) hb)
              have n2_ := Aside0.mk bq8_q3
              have n3_ := Aside0.mk bq9_q3
              have n4_ := Aside0.mk (below_step (by repeat bq7_q3) hb)
              have n5_ := Aside0.mk (hbox)
              have n6_ := Aside0.mk (bq47_q3)
              have n7_ := Aside0.mk (bq47_q3)
              have n8_ := Aside0.mk (bq142_q3)
              have n9_ := Aside0.mk (bq150_q3)
              have n10_ := Aside0.mk (bq140_q3)
              have n11_ := Aside0.mk (bq148_q3)
              clear HO203
              clear HO206
              clear BK197
              clear BK198
              clear HB
              have HO203 := n0_
              have HO206 := n1_
              have BK197 := n2_
              have BK198 := n3_
              have HB := n4_
              have BK211 := n5_
              have GW211 := n6_
              have GE211 := n7_
              have NB197_211 := n8_
              have NB211_197 := n9_
              have NB198_211 := n10_
              have NB211_198 := n11_
              bq210_q3
              clear hb hbox hg
              obtain ⟨Ao37, co37, eo37⟩ := Kd.R_slice HO203.out
              bq53_q3
              obtain ⟨Ao38, co38, eo38⟩ := Kd.R_slice HO206.out
              bq74_q3
              bq155_q3
              clear hK K
              refine norm_ (a' := ?_) ?_ ?_
              rotate_left
              · show Act.put _ (some 6) _ = _
                bq154_q3
                rfl
              bq194_q3
              bq205_q3
              with_reducible refine (spec_SumOf.calls k _ _ t201 _ _ t204 t207 t210 _ ?side1 ?side2 ?side3 ?side4 A21.out).mono ?_
              bq46_q3
              (case side2 => exact (Kd.R_reads' HO203.out).2.1)
              bq44_q3
              (case side4 => exact (Kd.R_reads' HO206.out).2.1)
              rintro e w39 ⟨v208, rfl, ho0, hb⟩
              refine ⟨_, rfl, ?_⟩
              have n0_ := Aside0.mk bq67_q3
              have n1_ := Aside0.mk bq123_q3
              bq244_q3
              have n3_ := Aside0.mk bq8_q3
              have n4_ := Aside0.mk bq9_q3
              have n5_ := Aside0.mk bq50_q3
              have n6_ := Aside0.mk (below_step bq6_q3 hb)
              clear HO203
              clear HO206
              clear BK197
              clear BK198
              clear BK211
              clear HB
              have HO203 := n0_
              have HO206 := n1_
              have HO209 := n2_
              have BK197 := n3_
              have BK198 := n4_
              have BK211 := n5_
              have HB := n6_
              clear n0_ n1_ n2_ n3_ n4_ n5_ n6_
              (try clear hb)
              (try clear hb2)
              (try clear hk)
              (try clear hi)
              (try clear ho0)
              bq155_q3
              clear hK K
              refine norm_ (a' := ?_) ?_ ?_
              rotate_left
              · show Act.put _ (some 32) _ = _
                bq154_q3
                rfl
              bq186_q3
              rotate_left
              · intro w'
                go_simp
                with_reducible rfl
              rotate_left
              · bq154_q3
                rfl
              bq188_q3
              rotate_left
              · intro w'
                go_simp
                with_reducible rfl
              rotate_left
              · bq154_q3
                rfl
              bq190_q3
              rotate_left
              · intro w'
                go_simp
                with_reducible rfl
              rotate_left
              · bq154_q3
                rfl
              bq168_q3
          · skip
            bq200_q3; bq31_q3
            intro gb211 hg w35 hbox hb
            bq240_q3
            have n1_ := Aside0.mk bq8_q3
            have n2_ := Aside0.mk bq9_q3
            have n3_ := Aside0.mk (below_step (by repeat bq7_q3) hb)
            have n4_ := Aside0.mk (hbox)
            have n5_ := Aside0.mk (bq47_q3)
            have n6_ := Aside0.mk (bq47_q3)
            have n7_ := Aside0.mk (bq142_q3)
            have n8_ := Aside0.mk (bq150_q3)
            have n9_ := Aside0.mk (bq140_q3)
            have n10_ := Aside0.mk (bq148_q3)
            clear HO203
            clear BK197
            clear BK198
            clear HB
            have HO203 := n0_
            have BK197 := n1_
            have BK198 := n2_
            have HB := n3_
            have BK211 := n4_
            have GW211 := n5_
            have GE211 := n6_
            have NB197_211 := n7_
            have NB211_197 := n8_
            have NB198_211 := n9_
            have NB211_198 := n10_
            clear n0_ n1_ n2_ n3_ n4_ n5_ n6_ n7_ n8_ n9_ n10_
            clear hb hbox hg
            bq155_q3
            clear hK K
            refine norm_ (a' := ?_) ?_ ?_
            rotate_left
            · show Act.put _ (some 6) _ = _
              bq154_q3
              rfl
            bq222_q3
            bq166_q3
            with_reducible refine (laws_toPoset.calls k _ _ l1_0 t204 _ ?side1 ?side2 A20.out).mono ?_
            bq17_q3
            (case side2 => exact HC1_0.out)
            rintro e w36 ⟨v205, rfl, ho0, hb⟩
            refine ⟨_, rfl, ?_⟩
            have n0_ := Aside0.mk bq67_q3
            have n1_ := Aside0.mk (Kd.R_lower (Kd.R_new' ho0 (Kd.R_lt (by bq2_q3; exact HO203.out))) (below_size bq6_q3))
            have n2_ := Aside0.mk bq8_q3
            have n3_ := Aside0.mk bq9_q3
            have n4_ := Aside0.mk bq50_q3
            have n5_ := Aside0.mk (below_step bq6_q3 hb)
            clear HO203
            clear BK197
            clear BK198
            clear BK211
            clear HB
            have HO203 := n0_
            have HO206 := n1_
            have BK197 := n2_
            have BK198 := n3_
            have BK211 := n4_
            have HB := n5_
            clear n0_ n1_ n2_ n3_ n4_ n5_
            (try clear hb)
            (try clear hb2)
            (try clear hk)
            (try clear hi)
            (try clear ho0)
            obtain ⟨Ao37, co37, eo37⟩ := Kd.R_slice HO203.out
            bq53_q3
            obtain ⟨Ao38, co38, eo38⟩ := Kd.R_slice HO206.out
            bq74_q3
            bq155_q3
            clear hK K
            refine norm_ (a' := ?_) ?_ ?_
            rotate_left
            · show Act.put _ (some 31) _ = _
              bq154_q3
              rfl
            bq194_q3
            bq205_q3
            with_reducible refine (spec_SumOf.calls k _ _ t201 _ _ t204 t207 t210 _ ?side1 ?side2 ?side3 ?side4 A21.out).mono ?_
            bq46_q3
            (case side2 => exact (Kd.R_reads' HO203.out).2.1)
            bq44_q3
            (case side4 => exact (Kd.R_reads' HO206.out).2.1)
            rintro e w39 ⟨v208, rfl, ho0, hb⟩
            refine ⟨_, rfl, ?_⟩
            have n0_ := Aside0.mk bq67_q3
            have n1_ := Aside0.mk bq123_q3
            bq244_q3
            have n3_ := Aside0.mk bq8_q3
            have n4_ := Aside0.mk bq9_q3
            have n5_ := Aside0.mk bq50_q3
            have n6_ := Aside0.mk (below_step bq6_q3 hb)
            clear HO203
            clear HO206
            clear BK197
            clear BK198
            clear BK211
            clear HB
            have HO203 := n0_
            have HO206 := n1_
            have HO209 := n2_
            have BK197 := n3_
            have BK198 := n4_
            have BK211 := n5_
            have HB := n6_
            clear n0_ n1_ n2_ n3_ n4_ n5_ n6_
            (try clear hb)
            (try clear hb2)
            (try clear hk)
            (try clear hi)
            (try clear ho0)
            bq155_q3
            clear hK K
            refine norm_ (a' := ?_) ?_ ?_
            rotate_left
            · show Act.put _ (some 32) _ = _
              bq154_q3
              rfl
            bq186_q3
            rotate_left
            · intro w'
              go_simp
              with_reducible rfl
            rotate_left
            · bq154_q3
              rfl
            bq188_q3
            rotate_left
            · intro w'
              go_simp
              with_reducible rfl
            rotate_left
            · bq154_q3
              rfl
            bq190_q3
            rotate_left
            · intro w'
              go_simp
              with_reducible rfl
            rotate_left
            · bq154_q3
              rfl
            bq168_q3
        · skip
          bq200_q3; bq31_q3
          intro gb211 hg w34 hbox hb
          have n0_ := Aside0.mk bq8_q3
          have n1_ := Aside0.mk bq9_q3
          have n2_ := Aside0.mk (below_step (by repeat bq7_q3) hb)
          have n3_ := Aside0.mk (hbox)
          have n4_ := Aside0.mk (bq47_q3)
          have n5_ := Aside0.mk (bq47_q3)
          have n6_ := Aside0.mk (bq142_q3)
          have n7_ := Aside0.mk (bq150_q3)
          have n8_ := Aside0.mk (bq140_q3)
          have n9_ := Aside0.mk (bq148_q3)
          clear BK197
          clear BK198
          clear HB
          have BK197 := n0_
          have BK198 := n1_
          have HB := n2_
          have BK211 := n3_
          have GW211 := n4_
          have GE211 := n5_
          have NB197_211 := n6_
          have NB211_197 := n7_
          have NB198_211 := n8_
          have NB211_198 := n9_
          clear n0_ n1_ n2_ n3_ n4_ n5_ n6_ n7_ n8_ n9_
          clear hb hbox hg
          bq155_q3
          clear hK K
          refine norm_ (a' := ?_) ?_ ?_
          rotate_left
          · show Act.put _ (some 6) _ = _
            bq154_q3
            rfl
          refine one_ (i := 1) (N := some 29) #[true, true, true, false, false, false, false, false, true, false, false] rfl rfl (one_of HT_.out (by kernel_rfl)) (by decide) (fun K hK => ?_)
          bq169_q3
          with_reducible refine (laws_toPoset.calls k _ _ l0_0 t201 _ ?side1 ?side2 A19.out).mono ?_
          bq18_q3
          (case side2 => exact HC0_0.out)
          rintro e w35 ⟨v202, rfl, ho0, hb⟩
          refine ⟨_, rfl, ?_⟩
          have n0_ := Aside0.mk (Kd.R_lower ho0 (below_size bq6_q3))
          have n1_ := Aside0.mk bq8_q3
          have n2_ := Aside0.mk bq9_q3
          have n3_ := Aside0.mk bq50_q3
          have n4_ := Aside0.mk (below_step bq6_q3 hb)
          clear BK197
          clear BK198
          clear BK211
          clear HB
          have HO203 := n0_
          have BK197 := n1_
          have BK198 := n2_
          have BK211 := n3_
          have HB := n4_
          clear n0_ n1_ n2_ n3_ n4_
          (try clear hb)
          (try clear hb2)
          (try clear hk)
          (try clear hi)
          (try clear ho0)
          bq155_q3
          clear hK K
          refine norm_ (a' := ?_) ?_ ?_
          rotate_left
          · show Act.put _ (some 29) _ = _
            bq154_q3
            rfl
          bq222_q3
          bq166_q3
          with_reducible refine (laws_toPoset.calls k _ _ l1_0 t204 _ ?side1 ?side2 A20.out).mono ?_
          bq17_q3
          (case side2 => exact HC1_0.out)
          rintro e w36 ⟨v205, rfl, ho0, hb⟩
          refine ⟨_, rfl, ?_⟩
          have n0_ := Aside0.mk bq67_q3
          have n1_ := Aside0.mk (Kd.R_lower (Kd.R_new' ho0 (Kd.R_lt (by bq2_q3; exact HO203.out))) (below_size bq6_q3))
          have n2_ := Aside0.mk bq8_q3
          have n3_ := Aside0.mk bq9_q3
          have n4_ := Aside0.mk bq50_q3
          have n5_ := Aside0.mk (below_step bq6_q3 hb)
          clear HO203
          clear BK197
          clear BK198
          clear BK211
          clear HB
          have HO203 := n0_
          have HO206 := n1_
          have BK197 := n2_
          have BK198 := n3_
          have BK211 := n4_
          have HB := n5_
          clear n0_ n1_ n2_ n3_ n4_ n5_
          (try clear hb)
          (try clear hb2)
          (try clear hk)
          (try clear hi)
          (try clear ho0)
          obtain ⟨Ao37, co37, eo37⟩ := Kd.R_slice HO203.out
          bq53_q3
          obtain ⟨Ao38, co38, eo38⟩ := Kd.R_slice HO206.out
          bq74_q3
          bq155_q3
          clear hK K
          refine norm_ (a' := ?_) ?_ ?_
          rotate_left
          · show Act.put _ (some 31) _ = _
            bq154_q3
            rfl
          bq194_q3
          bq205_q3
          with_reducible refine (spec_SumOf.calls k _ _ t201 _ _ t204 t207 t210 _ ?side1 ?side2 ?side3 ?side4 A21.out).mono ?_
          bq46_q3
          (case side2 => exact (Kd.R_reads' HO203.out).2.1)
          bq44_q3
          (case side4 => exact (Kd.R_reads' HO206.out).2.1)
          rintro e w39 ⟨v208, rfl, ho0, hb⟩
          refine ⟨_, rfl, ?_⟩
          have n0_ := Aside0.mk bq67_q3
          have n1_ := Aside0.mk bq123_q3
          bq244_q3
          have n3_ := Aside0.mk bq8_q3
          have n4_ := Aside0.mk bq9_q3
          have n5_ := Aside0.mk bq50_q3
          have n6_ := Aside0.mk (below_step bq6_q3 hb)
          clear HO203
          clear HO206
          clear BK197
          clear BK198
          clear BK211
          clear HB
          have HO203 := n0_
          have HO206 := n1_
          have HO209 := n2_
          have BK197 := n3_
          have BK198 := n4_
          have BK211 := n5_
          have HB := n6_
          clear n0_ n1_ n2_ n3_ n4_ n5_ n6_
          (try clear hb)
          (try clear hb2)
          (try clear hk)
          (try clear hi)
          (try clear ho0)
          bq155_q3
          clear hK K
          refine norm_ (a' := ?_) ?_ ?_
          rotate_left
          · show Act.put _ (some 32) _ = _
            bq154_q3
            rfl
          bq186_q3
          rotate_left
          · intro w'
            go_simp
            with_reducible rfl
          rotate_left
          · bq154_q3
            rfl
          bq188_q3
          rotate_left
          · intro w'
            go_simp
            with_reducible rfl
          rotate_left
          · bq154_q3
            rfl
          bq190_q3
          rotate_left
          · intro w'
            go_simp
            with_reducible rfl
          rotate_left
          · bq154_q3
            rfl
          bq168_q3
      rintro ⟨v202, v205, v208, gb211⟩ w40 ⟨hS_, h0_, h1_, h2_, h3_, h4_, h5_, h6_, h7_, h8_, h9_, h10_, h11_, h12_⟩
      have n0_ : Aside0 (Kd.R (Kd.int .i64) 3 w40 w.heap.size (fun k_ => some k_ ≠ (v205 : Value).ownBlock ∧ some k_ ≠ (v208 : Value).ownBlock) v202 t201) := ⟨h0_⟩
      have n1_ : Aside0 (Kd.R (Kd.int .i64) 3 w40 w.heap.size (fun k_ => some k_ ≠ (v202 : Value).ownBlock ∧ some k_ ≠ (v208 : Value).ownBlock) v205 t204) := ⟨h1_⟩
      have n2_ : Aside0 (Kd.R (Kd.int .i64) 3 w40 w.heap.size (fun k_ => some k_ ≠ (v202 : Value).ownBlock ∧ some k_ ≠ (v205 : Value).ownBlock) v208 t207) := ⟨h2_⟩
      have n3_ : Aside0 (w40.heap[gb197]? = some (.cells #[.slice A0_0 l0_0.length c0_0] 24 (0, 0))) := ⟨h3_⟩
      have n4_ : Aside0 (w40.heap[gb198]? = some (.cells #[.slice A1_0 l1_0.length c1_0] 24 (0, 0))) := ⟨h4_⟩
      have n5_ : Aside0 (w40.heap[gb211]? = some (.cells #[.slice none 0 0] 26 (0, 0))) := ⟨h5_⟩
      have n6_ : Aside0 (w.heap.size ≤ gb211) := ⟨h6_⟩
      have n7_ : Aside0 (w.heap.size ≤ gb211) := ⟨h7_⟩
      have n8_ : Aside0 (gb197 ≠ gb211) := ⟨h8_⟩
      have n9_ : Aside0 (gb211 ≠ gb197) := ⟨h9_⟩
      have n10_ : Aside0 (gb198 ≠ gb211) := ⟨h10_⟩
      have n11_ : Aside0 (gb211 ≠ gb198) := ⟨h11_⟩
      have n12_ : Aside0 (Below w.heap.size w w40) := ⟨h12_⟩
      clear BK197
      clear BK198
      clear HB
      clear h0_ h1_ h2_ h3_ h4_ h5_ h6_ h7_ h8_ h9_ h10_ h11_ h12_
      have HO203 := n0_
      have HO206 := n1_
      have HO209 := n2_
      have BK197 := n3_
      have BK198 := n4_
      have BK211 := n5_
      have GW211 := n6_
      have GE211 := n7_
      have NB197_211 := n8_
      have NB211_197 := n9_
      have NB198_211 := n10_
      have NB211_198 := n11_
      have HB := n12_
      bq189_q3
      have hHeld : w40.cell? ⟨gb197, 0, none⟩ = some (.slice A0_0 l0_0.length c0_0) ∧ w40.cell? ⟨gb198, 0, none⟩ = some (.slice A1_0 l1_0.length c1_0) := hS_
      obtain ⟨Ao41, co41, eo41⟩ := Kd.R_slice HO209.out
      (first | subst eo41 | (injection eo41 with f1_ f2_ f3_; bq183_q3; subst f4_; subst f5_))
      refine norm_ (a' := ?_) ?_ ?_
      rotate_left
      · simp only [putAll, Act.put, List.setIfInBounds_toArray, List.set_cons_zero, List.set_cons_succ]
        rfl
      bq224_q3
      have hs42 : w40.cell? ⟨gb211, 0, none⟩ = some (.slice none 0 0) := (blk_cell BK211.out 0).trans rfl
      have hfs42 := blk_frozen BK211.out 0
      have hns42_0 := NB197_211.out
      have hns42_1 := NB198_211.out
      have hms42_0 := NB211_197.out
      have hms42_1 := NB211_198.out
      refine skip_ (w1 := ?_) (by rfl) rfl ?_ ?_
      rotate_left
      · go_simp
        rfl
      refine hK.out _ _ ⟨((cell_far (p := ⟨gb211, _, none⟩) NB197_211.out _).trans (hHeld.1)), ((cell_far (p := ⟨gb211, _, none⟩) NB198_211.out _).trans (hHeld.2))⟩ (fun hHeld => ?_)
      clear hK K
      refine pure_ (i := 10) (N := some 7) (v := ?_) (a' := ?_) #[true, true, true, true, true, true, true, true, true, true, true] rfl rfl (any_of HT_.out (by kernel_rfl)) (fun _ _ _ h => h) (Or.inl ⟨by rfl, ?_⟩) ?_ ?_
      rotate_left
      · intro w'
        go_simp
        with_reducible rfl
      rotate_left
      · bq154_q3
        rfl
      refine done_ (done_of HT_.out (by kernel_rfl)) ?_
      have hnb43 := NB197_211.out
      have hnc43 := NB211_197.out
      have hcz44_0 : w40.cell? ⟨gb197, 0, none⟩ = some (.slice A0_0 l0_0.length c0_0) := (blk_cell BK197.out 0).trans rfl
      have hfz44_0 := blk_frozen BK197.out 0
      go_upto_region 12 with (first | ((with_reducible refine gate_callee (f := 11) rfl ?_); refine goesL_ (some 36) rfl rfl Try.func11 (by kernel_rfl) rfl #[.agg #[.slice A0_0 l0_0.length c0_0]] rfl bq5_q3 ?_; (with_reducible refine (laws_toPoset.calls k _ _ l0_0 t212 _ ?side1 ?side2 A22.out).mono ?_); (case side1 => exact Kd.C_below HR0_0.out bq6_q3); (case side2 => exact HC0_0.out); rintro e w45 ⟨v213, rfl, ho0, hb⟩; refine ⟨_, rfl, ?_⟩; have n0_ := Aside0.mk (Kd.R_elder' bq119_q3 (Kd.R_base ho0) hb); have n1_ := Aside0.mk (Kd.R_elder' bq118_q3 (Kd.R_base ho0) hb); have n2_ := Aside0.mk (Kd.R_elder' bq117_q3 (Kd.R_base ho0) hb); have n3_ := Aside0.mk (Kd.R_lower (Kd.R_new' (Kd.R_new' (Kd.R_new' ho0 (Kd.R_lt bq119_q3)) (Kd.R_lt bq118_q3)) (Kd.R_lt bq117_q3)) (below_size bq6_q3)); have n4_ := Aside0.mk (blk_below (g := gb197) (o := .cells #[.slice A0_0 l0_0.length c0_0] 24 (0, 0)) (by bq1_q3; refine blk_far ?_ NB197_211.out _; bq1_q3; exact BK197.out) hb); have n5_ := Aside0.mk (blk_below (g := gb198) (o := .cells #[.slice A1_0 l1_0.length c1_0] 24 (0, 0)) (by bq1_q3; refine blk_far ?_ NB198_211.out _; bq1_q3; exact BK198.out) hb); have n6_ := Aside0.mk (blk_below (g := gb211) (o := .cells #[.slice Ao41 t207.length co41] 26 (0, 0)) (by bq1_q3; refine blk_put (cs := #[.slice none 0 0]) ?_ 0 _ rfl; bq1_q3; exact BK211.out) hb); have n7_ := Aside0.mk (below_step bq6_q3 hb); clear HO203; clear HO206; clear HO209; bq219_q3; clear n0_ n1_ n2_ n3_ n4_ n5_ n6_ n7_; (try clear hb); bq206_q3; (try clear ho0)) | ((with_reducible refine gate_dst (N := 8) rfl ?_); refine box_event ?hg (N := 8) ?hd (cs := #[.slice none 0 0]) (t := 26) ?hr ?_; (case hd => rfl); (case hg => rfl); bq31_q3; intro gb215 hg w46 hbox hb; bq173_q3; have n4_ := Aside0.mk bq8_q3; have n5_ := Aside0.mk bq9_q3; have n6_ := Aside0.mk bq10_q3; have n7_ := Aside0.mk (below_step bq6_q3 hb); have n8_ := Aside0.mk (hbox); have n9_ := Aside0.mk ((by rw [hg]; exact (below_size bq6_q3) : w.heap.size ≤ gb215)); have n10_ := Aside0.mk ((by rw [hg]; exact (below_size bq6_q3) : w.heap.size ≤ gb215)); have n11_ := Aside0.mk ((by rw [hg]; exact Nat.ne_of_lt bq13_q3 : gb197 ≠ gb215)); have n12_ := Aside0.mk ((by rw [hg]; exact Nat.ne_of_gt bq13_q3 : gb215 ≠ gb197)); have n13_ := Aside0.mk ((by rw [hg]; exact Nat.ne_of_lt bq14_q3 : gb198 ≠ gb215)); have n14_ := Aside0.mk ((by rw [hg]; exact Nat.ne_of_gt bq14_q3 : gb215 ≠ gb198)); have n15_ := Aside0.mk ((by rw [hg]; exact Nat.ne_of_lt bq23_q3 : gb211 ≠ gb215)); have n16_ := Aside0.mk ((by rw [hg]; exact Nat.ne_of_gt bq23_q3 : gb215 ≠ gb211)); clear HO203; clear HO206; clear HO209; clear HO214; bq219_q3; have BK215 := n8_; have GW215 := n9_; have GE215 := n10_; have NB197_215 := n11_; have NB215_197 := n12_; have NB198_215 := n13_; have NB215_198 := n14_; have NB211_215 := n15_; have NB215_211 := n16_; clear n0_ n1_ n2_ n3_ n4_ n5_ n6_ n7_ n8_ n9_ n10_ n11_ n12_ n13_ n14_ n15_ n16_; clear hb hbox hg; obtain ⟨Ao47, co47, eo47⟩ := Kd.R_slice HO214.out; subst eo47; have hnb48 := NB215_197.out; have hnc48 := NB197_215.out; have hnb49 := NB215_198.out; have hnc49 := NB198_215.out; have hnb50 := NB215_211.out; have hnc50 := NB211_215.out; have hcz51_0 : w46.cell? ⟨gb215, 0, none⟩ = some (.slice none 0 0) := (blk_cell BK215.out 0).trans rfl; have hfz51_0 := blk_frozen BK215.out 0; have hnb52 := NB198_211.out; have hnc52 := NB211_198.out; have hcz53_0 : w46.cell? ⟨gb198, 0, none⟩ = some (.slice A1_0 l1_0.length c1_0) := (blk_cell BK198.out 0).trans rfl; have hfz53_0 := blk_frozen BK198.out 0) | ((with_reducible refine gate_callee (f := 11) rfl ?_); refine goesL_ (some 38) rfl rfl Try.func11 (by kernel_rfl) rfl #[.agg #[.slice A1_0 l1_0.length c1_0]] rfl bq5_q3 ?_; (with_reducible refine (laws_toPoset.calls k _ _ l1_0 t216 _ ?side1 ?side2 A23.out).mono ?_); (case side1 => exact Kd.C_below HR1_0.out bq22_q3); (case side2 => exact HC1_0.out); rintro e w54 ⟨v217, rfl, ho0, hb⟩; refine ⟨_, rfl, ?_⟩; have n0_ := Aside0.mk (Kd.R_elder' bq116_q3 (Kd.R_base ho0) hb); have n1_ := Aside0.mk (Kd.R_elder' bq115_q3 (Kd.R_base ho0) hb); have n2_ := Aside0.mk (Kd.R_elder' bq114_q3 (Kd.R_base ho0) hb); have n3_ := Aside0.mk (Kd.R_elder' bq113_q3 (Kd.R_base ho0) hb); have n4_ := Aside0.mk (Kd.R_lower (Kd.R_new' (Kd.R_new' (Kd.R_new' (Kd.R_new' ho0 (Kd.R_lt bq116_q3)) (Kd.R_lt bq115_q3)) (Kd.R_lt bq114_q3)) (Kd.R_lt bq113_q3)) (below_size bq22_q3)); have n5_ := Aside0.mk (blk_below (g := gb197) (o := .cells #[.slice A0_0 l0_0.length c0_0] 24 (0, 0)) (by bq1_q3; refine blk_far ?_ NB197_215.out _; bq1_q3; exact BK197.out) hb); have n6_ := Aside0.mk (blk_below (g := gb198) (o := .cells #[.slice A1_0 l1_0.length c1_0] 24 (0, 0)) (by bq1_q3; refine blk_far ?_ NB198_215.out _; bq1_q3; exact BK198.out) hb); have n7_ := Aside0.mk (blk_below (g := gb211) (o := .cells #[.slice Ao41 t207.length co41] 26 (0, 0)) (by bq1_q3; refine blk_far ?_ NB211_215.out _; bq1_q3; exact BK211.out) hb); have n8_ := Aside0.mk (blk_below (g := gb215) (o := .cells #[.slice Ao47 t212.length co47] 26 (0, 0)) (by bq1_q3; refine blk_put (cs := #[.slice none 0 0]) ?_ 0 _ rfl; bq1_q3; exact BK215.out) hb); have n9_ := Aside0.mk (below_step bq22_q3 hb); clear HO203; clear HO206; clear HO209; clear HO214; bq213_q3; clear n0_ n1_ n2_ n3_ n4_ n5_ n6_ n7_ n8_ n9_; (try clear hb); bq206_q3; (try clear ho0)) | ((with_reducible refine gate_dst (N := 9) rfl ?_); refine box_event ?hg (N := 9) ?hd (cs := #[.slice none 0 0]) (t := 26) ?hr ?_; (case hd => rfl); (case hg => rfl); bq31_q3; intro gb219 hg w55 hbox hb; bq173_q3; have n4_ := Aside0.mk (Kd.R_below (by bq2_q3; exact HO218.out) hb); have n5_ := Aside0.mk bq8_q3; have n6_ := Aside0.mk bq9_q3; have n7_ := Aside0.mk bq10_q3; have n8_ := Aside0.mk bq19_q3; have n9_ := Aside0.mk (below_step bq22_q3 hb); have n10_ := Aside0.mk (hbox); have n11_ := Aside0.mk ((by rw [hg]; exact (below_size bq22_q3) : w.heap.size ≤ gb219)); have n12_ := Aside0.mk ((by rw [hg]; exact (below_size bq22_q3) : w.heap.size ≤ gb219)); have n13_ := Aside0.mk ((by rw [hg]; exact Nat.ne_of_lt bq13_q3 : gb197 ≠ gb219)); have n14_ := Aside0.mk ((by rw [hg]; exact Nat.ne_of_gt bq13_q3 : gb219 ≠ gb197)); have n15_ := Aside0.mk ((by rw [hg]; exact Nat.ne_of_lt bq14_q3 : gb198 ≠ gb219)); have n16_ := Aside0.mk ((by rw [hg]; exact Nat.ne_of_gt bq14_q3 : gb219 ≠ gb198)); have n17_ := Aside0.mk ((by rw [hg]; exact Nat.ne_of_lt bq23_q3 : gb211 ≠ gb219)); have n18_ := Aside0.mk ((by rw [hg]; exact Nat.ne_of_gt bq23_q3 : gb219 ≠ gb211)); have n19_ := Aside0.mk ((by rw [hg]; exact Nat.ne_of_lt bq69_q3 : gb215 ≠ gb219)); have n20_ := Aside0.mk ((by rw [hg]; exact Nat.ne_of_gt bq69_q3 : gb219 ≠ gb215)); clear HO203; bq223_q3; bq213_q3; have BK219 := n10_; have GW219 := n11_; have GE219 := n12_; have NB197_219 := n13_; have NB219_197 := n14_; have NB198_219 := n15_; have NB219_198 := n16_; have NB211_219 := n17_; have NB219_211 := n18_; have NB215_219 := n19_; have NB219_215 := n20_; clear n0_ n1_ n2_ n3_ n4_ n5_ n6_ n7_ n8_ n9_ n10_ n11_ n12_ n13_ n14_ n15_ n16_ n17_ n18_ n19_ n20_; clear hb hbox hg; obtain ⟨Ao56, co56, eo56⟩ := Kd.R_slice HO218.out; subst eo56; have hnb57 := NB219_197.out; have hnc57 := NB197_219.out; have hnb58 := NB219_198.out; have hnc58 := NB198_219.out; have hnb59 := NB219_211.out; have hnc59 := NB211_219.out; have hnb60 := NB219_215.out; have hnc60 := NB215_219.out; have hcz61_0 : w55.cell? ⟨gb219, 0, none⟩ = some (.slice none 0 0) := (blk_cell BK219.out 0).trans rfl; have hfz61_0 := blk_frozen BK219.out 0; have hcz62_0 : w55.cell? ⟨gb215, 0, none⟩ = some (.slice Ao47 t212.length co47) := (blk_cell BK215.out 0).trans rfl; have hfz62_0 := blk_frozen BK215.out 0) | ((with_reducible refine gate_callee (f := 12) rfl ?_); refine goesL_ (some 42) rfl rfl Try.func12 (by kernel_rfl) rfl #[.agg #[.slice Ao47 t212.length co47], .agg #[.slice Ao56 t216.length co56]] rfl bq5_q3 ?_; (with_reducible refine (impl_SumOf.calls k _ _ t212 _ _ t216 t220 t223 _ ?side1 ?side2 ?side3 ?side4 A24.out).mono ?_); (case side1 => refine (Kd.R_reads' (e := 3) (base := w.heap.size) (ok := fun k_ => ((((True ∧ some k_ ≠ (v202 : Value).ownBlock) ∧ some k_ ≠ (v205 : Value).ownBlock) ∧ some k_ ≠ (.slice Ao41 t207.length co41 : Value).ownBlock) ∧ some k_ ≠ (.slice Ao56 t216.length co56 : Value).ownBlock)) (n := t212.length) (c := co47) ?_).2.2; exact bq65_q3); (case side2 => exact (Kd.R_reads' HO214.out).2.1); (case side3 => refine (Kd.R_reads' (e := 3) (base := w.heap.size) (ok := fun k_ => ((((True ∧ some k_ ≠ (v202 : Value).ownBlock) ∧ some k_ ≠ (v205 : Value).ownBlock) ∧ some k_ ≠ (.slice Ao41 t207.length co41 : Value).ownBlock) ∧ some k_ ≠ (.slice Ao47 t212.length co47 : Value).ownBlock)) (n := t216.length) (c := co56) ?_).2.2; exact bq64_q3); (case side4 => exact (Kd.R_reads' HO218.out).2.1); rintro e w63 ⟨v221, rfl, ho0, hb⟩; refine ⟨_, rfl, ?_⟩; have n0_ := Aside0.mk (Kd.R_elder' bq112_q3 (Kd.R_base ho0) hb); have n1_ := Aside0.mk (Kd.R_elder' bq111_q3 (Kd.R_base ho0) hb); have n2_ := Aside0.mk (Kd.R_elder' bq110_q3 (Kd.R_base ho0) hb); have n3_ := Aside0.mk (Kd.R_elder' bq65_q3 (Kd.R_base ho0) hb); have n4_ := Aside0.mk (Kd.R_elder' bq64_q3 (Kd.R_base ho0) hb); have n5_ := Aside0.mk (Kd.R_lower (Kd.R_new' (Kd.R_new' (Kd.R_new' (Kd.R_new' (Kd.R_new' ho0 (Kd.R_lt bq112_q3)) (Kd.R_lt bq111_q3)) (Kd.R_lt bq110_q3)) (Kd.R_lt bq65_q3)) (Kd.R_lt bq64_q3)) (below_size bq25_q3)); have n6_ := Aside0.mk (blk_below (g := gb197) (o := .cells #[.slice A0_0 l0_0.length c0_0] 24 (0, 0)) (by bq1_q3; refine blk_far ?_ NB197_219.out _; bq1_q3; exact BK197.out) hb); have n7_ := Aside0.mk (blk_below (g := gb198) (o := .cells #[.slice A1_0 l1_0.length c1_0] 24 (0, 0)) (by bq1_q3; refine blk_far ?_ NB198_219.out _; bq1_q3; exact BK198.out) hb); have n8_ := Aside0.mk (blk_below (g := gb211) (o := .cells #[.slice Ao41 t207.length co41] 26 (0, 0)) (by bq1_q3; refine blk_far ?_ NB211_219.out _; bq1_q3; exact BK211.out) hb); have n9_ := Aside0.mk (blk_below (g := gb215) (o := .cells #[.slice Ao47 t212.length co47] 26 (0, 0)) (by bq1_q3; refine blk_far ?_ NB215_219.out _; bq1_q3; exact BK215.out) hb); have n10_ := Aside0.mk (blk_below (g := gb219) (o := .cells #[.slice Ao56 t216.length co56] 26 (0, 0)) (by bq1_q3; refine blk_put (cs := #[.slice none 0 0]) ?_ 0 _ rfl; bq1_q3; exact BK219.out) hb); have n11_ := Aside0.mk (below_step bq25_q3 hb); clear HO203; bq223_q3; bq163_q3; bq167_q3; have HB := n11_; bq210_q3; (try clear hb); bq206_q3; (try clear ho0)) | ((with_reducible refine gate_dst (N := 10) rfl ?_); refine box_event ?hg (N := 10) ?hd (cs := #[.slice none 0 0]) (t := 26) ?hr ?_; (case hd => rfl); (case hg => rfl); bq31_q3; intro gb224 hg w64 hbox hb; bq173_q3; have n4_ := Aside0.mk (Kd.R_below (by bq2_q3; exact HO218.out) hb); have n5_ := Aside0.mk (Kd.R_below (by bq2_q3; exact HO222.out) hb); have n6_ := Aside0.mk bq8_q3; have n7_ := Aside0.mk bq9_q3; have n8_ := Aside0.mk bq10_q3; have n9_ := Aside0.mk bq19_q3; have n10_ := Aside0.mk bq24_q3; have n11_ := Aside0.mk (below_step bq25_q3 hb); have n12_ := Aside0.mk (hbox); have n13_ := Aside0.mk ((by rw [hg]; exact (below_size bq25_q3) : w.heap.size ≤ gb224)); have n14_ := Aside0.mk ((by rw [hg]; exact (below_size bq25_q3) : w.heap.size ≤ gb224)); have n15_ := Aside0.mk ((by rw [hg]; exact Nat.ne_of_lt bq13_q3 : gb197 ≠ gb224)); have n16_ := Aside0.mk ((by rw [hg]; exact Nat.ne_of_gt bq13_q3 : gb224 ≠ gb197)); have n17_ := Aside0.mk ((by rw [hg]; exact Nat.ne_of_lt bq14_q3 : gb198 ≠ gb224)); have n18_ := Aside0.mk ((by rw [hg]; exact Nat.ne_of_gt bq14_q3 : gb224 ≠ gb198)); have n19_ := Aside0.mk ((by rw [hg]; exact Nat.ne_of_lt bq23_q3 : gb211 ≠ gb224)); have n20_ := Aside0.mk ((by rw [hg]; exact Nat.ne_of_gt bq23_q3 : gb224 ≠ gb211)); have n21_ := Aside0.mk ((by rw [hg]; exact Nat.ne_of_lt bq69_q3 : gb215 ≠ gb224)); have n22_ := Aside0.mk ((by rw [hg]; exact Nat.ne_of_gt bq69_q3 : gb224 ≠ gb215)); have n23_ := Aside0.mk ((by rw [hg]; exact Nat.ne_of_lt (blk_lt (g := gb219) (o := .cells #[.slice Ao56 t216.length co56] 26 (0, 0)) (by bq1_q3; exact BK219.out)) : gb219 ≠ gb224)); have n24_ := Aside0.mk ((by rw [hg]; exact Nat.ne_of_gt (blk_lt (g := gb219) (o := .cells #[.slice Ao56 t216.length co56] 26 (0, 0)) (by bq1_q3; exact BK219.out)) : gb224 ≠ gb219)); clear HO203; bq223_q3; clear HO222; bq163_q3; bq167_q3; have HB := n11_; have BK224 := n12_; have GW224 := n13_; have GE224 := n14_; have NB197_224 := n15_; have NB224_197 := n16_; have NB198_224 := n17_; have NB224_198 := n18_; have NB211_224 := n19_; have NB224_211 := n20_; have NB215_224 := n21_; have NB224_215 := n22_; have NB219_224 := n23_; have NB224_219 := n24_; clear n0_ n1_ n2_ n3_ n4_ n5_ n6_ n7_ n8_ n9_ n10_ n11_ n12_ n13_ n14_ n15_ n16_ n17_ n18_ n19_ n20_ n21_ n22_ n23_ n24_; clear hb hbox hg; obtain ⟨Ao65, co65, eo65⟩ := Kd.R_slice HO222.out; subst eo65; have hnb66 := NB224_197.out; have hnc66 := NB197_224.out; have hnb67 := NB224_198.out; have hnc67 := NB198_224.out; have hnb68 := NB224_211.out; have hnc68 := NB211_224.out; have hnb69 := NB224_215.out; have hnc69 := NB215_224.out; have hnb70 := NB224_219.out; have hnc70 := NB219_224.out; have hcz71_0 : w64.cell? ⟨gb224, 0, none⟩ = some (.slice none 0 0) := (blk_cell BK224.out 0).trans rfl; have hfz71_0 := blk_frozen BK224.out 0))
      (try simp only [Act.put, List.setIfInBounds_toArray, List.set_cons_zero, List.set_cons_succ])
      go_cut [53] (fun v53 wc => ∃ (kq : Nat) (x53_24 : Bool), v53 = .bool x53_24 ∧ Aside0 (laws_FnExactSumOf.j0 kq t210 t223 x53_24 l0_0 l1_0 t207 t212 t216 t220 = some r) ∧ Aside0 (kq ≤ k) ∧ Aside0 (Kd.R (Kd.int .i64) 3 wc w.heap.size (fun k_ => some k_ ≠ ((.slice Ao47 t212.length co47) : Value).ownBlock ∧ some k_ ≠ ((.slice Ao56 t216.length co56) : Value).ownBlock ∧ some k_ ≠ ((.slice Ao65 t220.length co65) : Value).ownBlock) (.slice Ao41 t207.length co41) t207) ∧ Aside0 (Kd.R (Kd.int .i64) 3 wc w.heap.size (fun k_ => some k_ ≠ ((.slice Ao41 t207.length co41) : Value).ownBlock ∧ some k_ ≠ ((.slice Ao56 t216.length co56) : Value).ownBlock ∧ some k_ ≠ ((.slice Ao65 t220.length co65) : Value).ownBlock) (.slice Ao47 t212.length co47) t212) ∧ Aside0 (Kd.R (Kd.int .i64) 3 wc w.heap.size (fun k_ => some k_ ≠ ((.slice Ao41 t207.length co41) : Value).ownBlock ∧ some k_ ≠ ((.slice Ao47 t212.length co47) : Value).ownBlock ∧ some k_ ≠ ((.slice Ao65 t220.length co65) : Value).ownBlock) (.slice Ao56 t216.length co56) t216) ∧ Aside0 (Kd.R (Kd.int .i64) 3 wc w.heap.size (fun k_ => some k_ ≠ ((.slice Ao41 t207.length co41) : Value).ownBlock ∧ some k_ ≠ ((.slice Ao47 t212.length co47) : Value).ownBlock ∧ some k_ ≠ ((.slice Ao56 t216.length co56) : Value).ownBlock) (.slice Ao65 t220.length co65) t220) ∧ Aside0 (wc.heap[gb197]? = some (.cells #[(.slice A0_0 l0_0.length c0_0)] 24 (0, 0))) ∧ Aside0 (wc.heap[gb198]? = some (.cells #[(.slice A1_0 l1_0.length c1_0)] 24 (0, 0))) ∧ Aside0 (wc.heap[gb211]? = some (.cells #[(.slice Ao41 t207.length co41)] 26 (0, 0))) ∧ Aside0 (wc.heap[gb215]? = some (.cells #[(.slice Ao47 t212.length co47)] 26 (0, 0))) ∧ Aside0 (wc.heap[gb219]? = some (.cells #[(.slice Ao56 t216.length co56)] 26 (0, 0))) ∧ Aside0 (wc.heap[gb224]? = some (.cells #[(.slice Ao65 t220.length co65)] 26 (0, 0))) ∧ Aside0 (Below w.heap.size w wc))
      case first =>
        have H := HC25.out
        clear HC25
        replace H := Option.bind_eq_some_iff.mp H
        obtain ⟨t225, A720, H⟩ := H
        replace H : (if t225 = true then (laws_FnExactSumOf.j0 k t210 t223 (t223 != t210) l0_0 l1_0 t207 t212 t216 t220) else (laws_FnExactSumOf.j0 k t210 t223 true l0_0 l1_0 t207 t212 t216 t220)) = some r := H
        have A72 := Aside0.mk A720
        clear A720
        by_cases c73 : t225 = true
        · subst c73
          have H1 : (laws_FnExactSumOf.j0 k t210 t223 (t223 != t210) l0_0 l1_0 t207 t212 t216 t220) = some r := by rw [if_pos rfl] at H; exact H
          clear H
          have H := H1
          clear H1
          have H' := Aside0.mk H
          clear H
          have hnb74 := NB224_197.out
          have hnc74 := NB197_224.out
          have hnb75 := NB224_198.out
          have hnc75 := NB198_224.out
          have hnb76 := NB224_211.out
          have hnc76 := NB211_224.out
          have hnb77 := NB224_215.out
          have hnc77 := NB215_224.out
          have hnb78 := NB224_219.out
          have hnc78 := NB219_224.out
          have hcz79_0 : w64.cell? ⟨gb224, 0, none⟩ = some (.slice none 0 0) := (blk_cell BK224.out 0).trans rfl
          have hfz79_0 := blk_frozen BK224.out 0
          have hnb80 := NB211_197.out
          have hnc80 := NB197_211.out
          have hnb81 := NB211_198.out
          have hnc81 := NB198_211.out
          have hnb82 := NB211_215.out
          have hnc82 := NB215_211.out
          have hnb83 := NB211_219.out
          have hnc83 := NB219_211.out
          have hcz84_0 : w64.cell? ⟨gb211, 0, none⟩ = some (.slice Ao41 t207.length co41) := (blk_cell BK211.out 0).trans rfl
          have hfz84_0 := blk_frozen BK211.out 0
          go_wp2_with (first | (bq152_q3; bq231_q3; (with_reducible refine (laws_eqPoset.calls k _ _ t220 _ _ t207 true _ ?side1 ?side2 ?side3 ?side4 A72.out).mono ?_); bq41_q3; (case side2 => exact (Kd.R_reads' HO222.out).2.1); bq42_q3; (case side4 => exact (Kd.R_reads' HO209.out).2.1); rintro e w85 ⟨rfl, hb⟩; bq182_q3; bq223_q3; clear HO222; bq163_q3; clear BK224; bq167_q3; have BK224 := n11_; bq165_q3))
          go_meet
          case rel => exact ⟨_, ((t223 != t210)), (by first | rfl | (simp; done) | (simp [*]; done)), H', ⟨by first | omega | exact Nat.le_refl _⟩, ⟨by bq2_q3; exact Kd.R_mono HO209.out (fun _ hk => ⟨hk.1.1.2, ⟨hk.1.2, hk.2⟩⟩)⟩, ⟨by bq2_q3; exact Kd.R_mono HO214.out (fun _ hk => ⟨hk.1.1.2, ⟨hk.1.2, hk.2⟩⟩)⟩, ⟨by bq2_q3; exact Kd.R_mono HO218.out (fun _ hk => ⟨hk.1.1.2, ⟨hk.1.2, hk.2⟩⟩)⟩, ⟨by bq2_q3; exact Kd.R_mono HO222.out (fun _ hk => ⟨hk.1.1.2, ⟨hk.1.2, hk.2⟩⟩)⟩, ⟨by bq1_q3; exact BK197.out⟩, ⟨by bq1_q3; exact BK198.out⟩, ⟨by bq1_q3; exact BK211.out⟩, ⟨by bq1_q3; exact BK215.out⟩, ⟨by bq1_q3; exact BK219.out⟩, ⟨by bq1_q3; exact BK224.out⟩, ⟨by repeat bq3_q3⟩⟩
        · replace c73 := Bool.eq_false_iff.mpr c73
          subst c73
          have H1 : (laws_FnExactSumOf.j0 k t210 t223 true l0_0 l1_0 t207 t212 t216 t220) = some r := by rw [if_neg (show ¬ (false = true) by decide)] at H; exact H
          clear H
          have H := H1
          clear H1
          have H' := Aside0.mk H
          clear H
          have hnb86 := NB224_197.out
          have hnc86 := NB197_224.out
          have hnb87 := NB224_198.out
          have hnc87 := NB198_224.out
          have hnb88 := NB224_211.out
          have hnc88 := NB211_224.out
          have hnb89 := NB224_215.out
          have hnc89 := NB215_224.out
          have hnb90 := NB224_219.out
          have hnc90 := NB219_224.out
          have hcz91_0 : w64.cell? ⟨gb224, 0, none⟩ = some (.slice none 0 0) := (blk_cell BK224.out 0).trans rfl
          have hfz91_0 := blk_frozen BK224.out 0
          have hnb92 := NB211_197.out
          have hnc92 := NB197_211.out
          have hnb93 := NB211_198.out
          have hnc93 := NB198_211.out
          have hnb94 := NB211_215.out
          have hnc94 := NB215_211.out
          have hnb95 := NB211_219.out
          have hnc95 := NB219_211.out
          have hcz96_0 : w64.cell? ⟨gb211, 0, none⟩ = some (.slice Ao41 t207.length co41) := (blk_cell BK211.out 0).trans rfl
          have hfz96_0 := blk_frozen BK211.out 0
          go_wp2_with (first | (bq152_q3; bq231_q3; (with_reducible refine (laws_eqPoset.calls k _ _ t220 _ _ t207 false _ ?side1 ?side2 ?side3 ?side4 A72.out).mono ?_); bq41_q3; (case side2 => exact (Kd.R_reads' HO222.out).2.1); bq42_q3; (case side4 => exact (Kd.R_reads' HO209.out).2.1); rintro e w97 ⟨rfl, hb⟩; bq182_q3; bq223_q3; clear HO222; bq163_q3; clear BK224; bq167_q3; have BK224 := n11_; bq165_q3))
          go_meet
          case rel => exact ⟨_, (true), (by first | rfl | (simp; done) | (simp [*]; done)), H', ⟨by first | omega | exact Nat.le_refl _⟩, ⟨by bq2_q3; exact Kd.R_mono HO209.out (fun _ hk => ⟨hk.1.1.2, ⟨hk.1.2, hk.2⟩⟩)⟩, ⟨by bq2_q3; exact Kd.R_mono HO214.out (fun _ hk => ⟨hk.1.1.2, ⟨hk.1.2, hk.2⟩⟩)⟩, ⟨by bq2_q3; exact Kd.R_mono HO218.out (fun _ hk => ⟨hk.1.1.2, ⟨hk.1.2, hk.2⟩⟩)⟩, ⟨by bq2_q3; exact Kd.R_mono HO222.out (fun _ hk => ⟨hk.1.1.2, ⟨hk.1.2, hk.2⟩⟩)⟩, ⟨by bq1_q3; exact BK197.out⟩, ⟨by bq1_q3; exact BK198.out⟩, ⟨by bq1_q3; exact BK211.out⟩, ⟨by bq1_q3; exact BK215.out⟩, ⟨by bq1_q3; exact BK219.out⟩, ⟨by bq1_q3; exact BK224.out⟩, ⟨by repeat bq3_q3⟩⟩
      case rest =>
        clear HC25
        try clear c1
        try clear p2
        try clear c4
        try clear c5
        try clear c6
        try clear c7
        try clear c8
        try clear c9
        try clear c10
        try clear c11
        try clear c12
        try clear c13
        try clear c43
        try clear c48
        try clear c49
        try clear c50
        try clear c52
        try clear c57
        try clear c58
        try clear c59
        try clear c60
        try clear c66
        try clear c67
        try clear c68
        try clear c69
        try clear c70
        try clear c73
        try clear c74
        try clear c75
        try clear c76
        try clear c77
        try clear c78
        try clear c80
        try clear c81
        try clear c82
        try clear c83
        try clear c86
        try clear c87
        try clear c88
        try clear c89
        try clear c90
        try clear c92
        try clear c93
        try clear c94
        try clear c95
        try clear hcz44_0
        try clear hcz51_0
        try clear hcz53_0
        try clear hcz61_0
        try clear hcz62_0
        try clear hcz71_0
        try clear hcz79_0
        try clear hcz84_0
        try clear hcz91_0
        try clear hcz96_0
        try clear hfz44_0
        try clear hfz51_0
        try clear hfz53_0
        try clear hfz61_0
        try clear hfz62_0
        try clear hfz71_0
        try clear hfz79_0
        try clear hfz84_0
        try clear hfz91_0
        try clear hfz96_0
        obtain ⟨kq, x53_24, rfl, HA, HJ24, HO_212000, HO_216000, HO_220000, HO_225000, BK197, BK198, BK211, BK215, BK219, BK224, HB⟩ := hcut
        cases kq with
        | zero => exact absurd HA.out (by simp [laws_FnExactSumOf.j0])
        | succ kj24 =>
          have H := HA.out
          clear HA
          simp only [laws_FnExactSumOf.j0] at H
          by_cases c98 : x53_24 = true
          · subst c98
            bq236_q3
            clear H
            have H := H1
            clear H1
            obtain rfl := Option.some.inj H
            go_wp2
            go_ret
            bq171_q3
          · replace c98 := Bool.eq_false_iff.mpr c98
            subst c98
            have H1 : ((laws_toPoset.f kj24 l0_0).bind fun t226 => ((laws_eqPoset.f kj24 t212 t226).bind fun t229 => (if t229 = true then ((laws_toPoset.f kj24 l1_0).bind fun t230 => ((laws_eqPoset.f kj24 t216 t230).bind fun t233 => (if t233 = true then ((laws_markPoset.f kj24 t212 1).bind fun bt234 => ((laws_markPoset.f kj24 t216 bt234.1).bind fun bt236 => (if bt236.1 < 0 then (laws_FnExactSumOf.j1 kj24 t210 true l0_0 l1_0 t207 t220) else ((laws_eqPoset.f kj24 t220 t207).bind fun t238 => (if t238 = true then (laws_FnExactSumOf.j1 kj24 t210 (t223 != t210) l0_0 l1_0 t207 t220) else (laws_FnExactSumOf.j1 kj24 t210 true l0_0 l1_0 t207 t220)))))) else (some false)))) else (some false)))) = some r := by rw [if_neg (show ¬ (false = true) by decide)] at H; exact H
            clear H
            have H := H1
            clear H1
            replace H := Option.bind_eq_some_iff.mp H
            obtain ⟨t226, A990, H⟩ := H
            replace H : ((laws_eqPoset.f kj24 t212 t226).bind fun t229 => (if t229 = true then ((laws_toPoset.f kj24 l1_0).bind fun t230 => ((laws_eqPoset.f kj24 t216 t230).bind fun t233 => (if t233 = true then ((laws_markPoset.f kj24 t212 1).bind fun bt234 => ((laws_markPoset.f kj24 t216 bt234.1).bind fun bt236 => (if bt236.1 < 0 then (laws_FnExactSumOf.j1 kj24 t210 true l0_0 l1_0 t207 t220) else ((laws_eqPoset.f kj24 t220 t207).bind fun t238 => (if t238 = true then (laws_FnExactSumOf.j1 kj24 t210 (t223 != t210) l0_0 l1_0 t207 t220) else (laws_FnExactSumOf.j1 kj24 t210 true l0_0 l1_0 t207 t220)))))) else (some false)))) else (some false))) = some r := H
            have A99 := Aside0.mk A990
            clear A990
            replace H := Option.bind_eq_some_iff.mp H
            obtain ⟨t229, A1000, H⟩ := H
            replace H : (if t229 = true then ((laws_toPoset.f kj24 l1_0).bind fun t230 => ((laws_eqPoset.f kj24 t216 t230).bind fun t233 => (if t233 = true then ((laws_markPoset.f kj24 t212 1).bind fun bt234 => ((laws_markPoset.f kj24 t216 bt234.1).bind fun bt236 => (if bt236.1 < 0 then (laws_FnExactSumOf.j1 kj24 t210 true l0_0 l1_0 t207 t220) else ((laws_eqPoset.f kj24 t220 t207).bind fun t238 => (if t238 = true then (laws_FnExactSumOf.j1 kj24 t210 (t223 != t210) l0_0 l1_0 t207 t220) else (laws_FnExactSumOf.j1 kj24 t210 true l0_0 l1_0 t207 t220)))))) else (some false)))) else (some false)) = some r := H
            have A100 := Aside0.mk A1000
            clear A1000
            by_cases c101 : t229 = true
            · subst c101
              have H1 : ((laws_toPoset.f kj24 l1_0).bind fun t230 => ((laws_eqPoset.f kj24 t216 t230).bind fun t233 => (if t233 = true then ((laws_markPoset.f kj24 t212 1).bind fun bt234 => ((laws_markPoset.f kj24 t216 bt234.1).bind fun bt236 => (if bt236.1 < 0 then (laws_FnExactSumOf.j1 kj24 t210 true l0_0 l1_0 t207 t220) else ((laws_eqPoset.f kj24 t220 t207).bind fun t238 => (if t238 = true then (laws_FnExactSumOf.j1 kj24 t210 (t223 != t210) l0_0 l1_0 t207 t220) else (laws_FnExactSumOf.j1 kj24 t210 true l0_0 l1_0 t207 t220)))))) else (some false)))) = some r := by rw [if_pos rfl] at H; exact H
              clear H
              have H := H1
              clear H1
              replace H := Option.bind_eq_some_iff.mp H
              obtain ⟨t230, A1020, H⟩ := H
              replace H : ((laws_eqPoset.f kj24 t216 t230).bind fun t233 => (if t233 = true then ((laws_markPoset.f kj24 t212 1).bind fun bt234 => ((laws_markPoset.f kj24 t216 bt234.1).bind fun bt236 => (if bt236.1 < 0 then (laws_FnExactSumOf.j1 kj24 t210 true l0_0 l1_0 t207 t220) else ((laws_eqPoset.f kj24 t220 t207).bind fun t238 => (if t238 = true then (laws_FnExactSumOf.j1 kj24 t210 (t223 != t210) l0_0 l1_0 t207 t220) else (laws_FnExactSumOf.j1 kj24 t210 true l0_0 l1_0 t207 t220)))))) else (some false))) = some r := H
              have A102 := Aside0.mk A1020
              clear A1020
              replace H := Option.bind_eq_some_iff.mp H
              obtain ⟨t233, A1030, H⟩ := H
              replace H : (if t233 = true then ((laws_markPoset.f kj24 t212 1).bind fun bt234 => ((laws_markPoset.f kj24 t216 bt234.1).bind fun bt236 => (if bt236.1 < 0 then (laws_FnExactSumOf.j1 kj24 t210 true l0_0 l1_0 t207 t220) else ((laws_eqPoset.f kj24 t220 t207).bind fun t238 => (if t238 = true then (laws_FnExactSumOf.j1 kj24 t210 (t223 != t210) l0_0 l1_0 t207 t220) else (laws_FnExactSumOf.j1 kj24 t210 true l0_0 l1_0 t207 t220)))))) else (some false)) = some r := H
              have A103 := Aside0.mk A1030
              clear A1030
              by_cases c104 : t233 = true
              · subst c104
                have H1 : ((laws_markPoset.f kj24 t212 1).bind fun bt234 => ((laws_markPoset.f kj24 t216 bt234.1).bind fun bt236 => (if bt236.1 < 0 then (laws_FnExactSumOf.j1 kj24 t210 true l0_0 l1_0 t207 t220) else ((laws_eqPoset.f kj24 t220 t207).bind fun t238 => (if t238 = true then (laws_FnExactSumOf.j1 kj24 t210 (t223 != t210) l0_0 l1_0 t207 t220) else (laws_FnExactSumOf.j1 kj24 t210 true l0_0 l1_0 t207 t220)))))) = some r := by rw [if_pos rfl] at H; exact H
                clear H
                have H := H1
                clear H1
                replace H := Option.bind_eq_some_iff.mp H
                obtain ⟨⟨t234, t235⟩, A1050, H⟩ := H
                replace H : ((laws_markPoset.f kj24 t216 t234).bind fun bt236 => (if bt236.1 < 0 then (laws_FnExactSumOf.j1 kj24 t210 true l0_0 l1_0 t207 t220) else ((laws_eqPoset.f kj24 t220 t207).bind fun t238 => (if t238 = true then (laws_FnExactSumOf.j1 kj24 t210 (t223 != t210) l0_0 l1_0 t207 t220) else (laws_FnExactSumOf.j1 kj24 t210 true l0_0 l1_0 t207 t220))))) = some r := H
                have A105 := Aside0.mk A1050
                clear A1050
                replace H := Option.bind_eq_some_iff.mp H
                obtain ⟨⟨t236, t237⟩, A1060, H⟩ := H
                replace H : (if t236 < 0 then (laws_FnExactSumOf.j1 kj24 t210 true l0_0 l1_0 t207 t220) else ((laws_eqPoset.f kj24 t220 t207).bind fun t238 => (if t238 = true then (laws_FnExactSumOf.j1 kj24 t210 (t223 != t210) l0_0 l1_0 t207 t220) else (laws_FnExactSumOf.j1 kj24 t210 true l0_0 l1_0 t207 t220)))) = some r := H
                have A106 := Aside0.mk A1060
                clear A1060
                have HC107 := Aside0.mk H
                clear H
                try go_wp2
                have n0_ := Aside0.mk (Kd.R_drew HO_212000.out)
                have n1_ := Aside0.mk (Kd.R_drew HO_216000.out)
                have n2_ := Aside0.mk (Kd.R_drew HO_220000.out)
                have n3_ := Aside0.mk (Kd.R_drew HO_225000.out)
                have n4_ := Aside0.mk (blk_drew BK197.out)
                have n5_ := Aside0.mk (blk_drew BK198.out)
                have n6_ := Aside0.mk (blk_drew BK211.out)
                have n7_ := Aside0.mk (blk_drew BK215.out)
                have n8_ := Aside0.mk (blk_drew BK219.out)
                have n9_ := Aside0.mk (blk_drew BK224.out)
                have n10_ := Aside0.mk (below_drew1 HB.out)
                clear HO_212000
                clear HO_216000
                clear HO_220000
                clear HO_225000
                clear BK197
                clear BK198
                clear BK211
                clear BK215
                clear BK219
                clear BK224
                clear HB
                have HO_212000 := n0_
                have HO_216000 := n1_
                have HO_220000 := n2_
                have HO_225000 := n3_
                have BK197 := n4_
                have BK198 := n5_
                have BK211 := n6_
                have BK215 := n7_
                have BK219 := n8_
                have BK224 := n9_
                have HB := n10_
                clear n0_ n1_ n2_ n3_ n4_ n5_ n6_ n7_ n8_ n9_ n10_
                refine start_ (n := 5) (S := fun w' => w'.cell? ⟨gb215, 0, none⟩ = some (.slice Ao47 t212.length co47) ∧ w'.cell? ⟨gb197, 0, none⟩ = some (.slice A0_0 l0_0.length c0_0)) (ds := []) #[false, false, false, false, false] (by kernel_rfl) rfl rfl ⟨(blk_cell BK215.out 0).trans rfl, (blk_cell BK197.out 0).trans rfl⟩ (fun hHeld => ?_)
                generalize wc.drew = w108 at HO_212000 HO_216000 HO_220000 HO_225000 BK197 BK198 BK211 BK215 BK219 BK224 HB hHeld ⊢
                bq197_q3
                rotate_left
                · rintro w' ⟨s0, s1⟩
                  go_simp
                  with_reducible rfl
                rotate_left
                · bq154_q3
                  rfl
                bq198_q3
                rotate_left
                · rintro w' ⟨s0, s1⟩
                  go_simp
                  with_reducible rfl
                rotate_left
                · bq154_q3
                  rfl
                bq215_q3
                bq169_q3
                with_reducible refine (laws_toPoset.calls kj24 _ _ l0_0 t226 _ ?side1 ?side2 A99.out).mono ?_
                bq18_q3
                (case side2 => exact HC0_0.out)
                rintro e w109 ⟨v227, rfl, ho0, hb⟩
                refine ⟨_, rfl, ?_⟩
                have n0_ := Aside0.mk bq30_q3
                have n1_ := Aside0.mk bq29_q3
                have n2_ := Aside0.mk bq28_q3
                have n3_ := Aside0.mk bq27_q3
                have n4_ := Aside0.mk bq153_q3
                have n5_ := Aside0.mk bq8_q3
                have n6_ := Aside0.mk bq9_q3
                have n7_ := Aside0.mk bq10_q3
                have n8_ := Aside0.mk bq19_q3
                have n9_ := Aside0.mk bq24_q3
                have n10_ := Aside0.mk bq11_q3
                bq192_q3
                clear HO_212000
                clear HO_216000
                clear HO_220000
                clear HO_225000
                clear BK197
                clear BK198
                clear BK211
                clear BK215
                clear BK219
                clear BK224
                clear HB
                have HO_212000 := n0_
                have HO_216000 := n1_
                have HO_220000 := n2_
                have HO_225000 := n3_
                have HO228 := n4_
                have BK197 := n5_
                have BK198 := n6_
                have BK211 := n7_
                have BK215 := n8_
                have BK219 := n9_
                have BK224 := n10_
                have HB := n11_
                bq210_q3
                (try clear hb)
                (try clear hb2)
                (try clear hk)
                (try clear hi)
                (try clear ho0)
                obtain ⟨Ao110, co110, eo110⟩ := Kd.R_slice HO228.out
                (first | subst eo110 | (injection eo110 with f1_ f2_ f3_; bq183_q3; subst f4_; subst f5_))
                bq180_q3
                clear hK K
                refine norm_ (a' := ?_) ?_ ?_
                rotate_left
                · show Act.put _ (some 56) _ = _
                  bq154_q3
                  rfl
                bq216_q3
                refine goes_ Try.func13 (by kernel_rfl) rfl #[.agg #[.slice Ao47 t212.length co47], .agg #[.slice Ao110 t226.length co110]] (by rfl) rfl rfl bq5_q3 ?_
                with_reducible refine (laws_eqPoset.calls kj24 _ _ t212 _ _ t226 true _ ?side1 ?side2 ?side3 ?side4 A100.out).mono ?_
                bq55_q3
                (case side2 => exact (Kd.R_reads' HO_216000.out).2.1)
                bq60_q3
                (case side4 => exact (Kd.R_reads' HO228.out).2.1)
                rintro e w111 ⟨rfl, hb⟩
                refine ⟨_, rfl, ?_⟩
                bq178_q3
                bq177_q3
                bq176_q3
                bq175_q3
                bq214_q3
                have n5_ := Aside0.mk bq8_q3
                have n6_ := Aside0.mk bq9_q3
                have n7_ := Aside0.mk bq10_q3
                have n8_ := Aside0.mk bq19_q3
                have n9_ := Aside0.mk bq24_q3
                have n10_ := Aside0.mk bq11_q3
                bq192_q3
                clear HO_212000
                clear HO_216000
                clear HO_220000
                clear HO_225000
                clear HO228
                clear BK197
                clear BK198
                clear BK211
                clear BK215
                clear BK219
                clear BK224
                clear HB
                have HO_212000 := n0_
                have HO_216000 := n1_
                have HO_220000 := n2_
                have HO_225000 := n3_
                have HO228 := n4_
                have BK197 := n5_
                have BK198 := n6_
                have BK211 := n7_
                have BK215 := n8_
                have BK219 := n9_
                have BK224 := n10_
                have HB := n11_
                bq210_q3
                (try clear hb)
                (try clear hb2)
                (try clear hk)
                (try clear hi)
                bq180_q3
                clear hK K
                refine norm_ (a' := ?_) ?_ ?_
                rotate_left
                · show Act.put _ (some 57) _ = _
                  bq154_q3
                  rfl
                bq201_q3
                rotate_left
                · intro w'
                  go_simp
                  with_reducible rfl
                rotate_left
                · bq154_q3
                  rfl
                refine done_ (by kernel_rfl) ?_
                try go_wp2
                have n0_ := Aside0.mk (Kd.R_drew HO_212000.out)
                have n1_ := Aside0.mk (Kd.R_drew HO_216000.out)
                have n2_ := Aside0.mk (Kd.R_drew HO_220000.out)
                have n3_ := Aside0.mk (Kd.R_drew HO_225000.out)
                have n4_ := Aside0.mk (Kd.R_drew HO228.out)
                have n5_ := Aside0.mk (blk_drew BK197.out)
                have n6_ := Aside0.mk (blk_drew BK198.out)
                have n7_ := Aside0.mk (blk_drew BK211.out)
                have n8_ := Aside0.mk (blk_drew BK215.out)
                have n9_ := Aside0.mk (blk_drew BK219.out)
                have n10_ := Aside0.mk (blk_drew BK224.out)
                have n11_ := Aside0.mk (below_drew1 HB.out)
                clear HO_212000
                clear HO_216000
                clear HO_220000
                clear HO_225000
                clear HO228
                clear BK197
                clear BK198
                clear BK211
                clear BK215
                clear BK219
                clear BK224
                clear HB
                have HO_212000 := n0_
                have HO_216000 := n1_
                have HO_220000 := n2_
                have HO_225000 := n3_
                have HO228 := n4_
                have BK197 := n5_
                have BK198 := n6_
                have BK211 := n7_
                have BK215 := n8_
                have BK219 := n9_
                have BK224 := n10_
                have HB := n11_
                bq210_q3
                refine start_ (n := 5) (S := fun w' => w'.cell? ⟨gb219, 0, none⟩ = some (.slice Ao56 t216.length co56) ∧ w'.cell? ⟨gb198, 0, none⟩ = some (.slice A1_0 l1_0.length c1_0)) (ds := []) #[false, false, false, false, false] (by kernel_rfl) rfl rfl ⟨(blk_cell BK219.out 0).trans rfl, (blk_cell BK198.out 0).trans rfl⟩ (fun hHeld => ?_)
                generalize w111.drew = w112 at HO_212000 HO_216000 HO_220000 HO_225000 HO228 BK197 BK198 BK211 BK215 BK219 BK224 HB hHeld ⊢
                bq225_q3
                rotate_left
                · rintro w' ⟨s0, s1⟩
                  go_simp
                  with_reducible rfl
                rotate_left
                · bq154_q3
                  rfl
                bq226_q3
                rotate_left
                · rintro w' ⟨s0, s1⟩
                  go_simp
                  with_reducible rfl
                rotate_left
                · bq154_q3
                  rfl
                bq242_q3
                bq166_q3
                with_reducible refine (laws_toPoset.calls kj24 _ _ l1_0 t230 _ ?side1 ?side2 A102.out).mono ?_
                bq17_q3
                (case side2 => exact HC1_0.out)
                rintro e w113 ⟨v231, rfl, ho0, hb⟩
                refine ⟨_, rfl, ?_⟩
                have n0_ := Aside0.mk bq30_q3
                have n1_ := Aside0.mk bq29_q3
                have n2_ := Aside0.mk bq28_q3
                have n3_ := Aside0.mk bq27_q3
                have n4_ := Aside0.mk (Kd.R_elder' (by bq2_q3; exact HO228.out) (Kd.R_base ho0) hb)
                bq238_q3
                have n6_ := Aside0.mk bq8_q3
                have n7_ := Aside0.mk bq9_q3
                have n8_ := Aside0.mk bq10_q3
                have n9_ := Aside0.mk bq19_q3
                have n10_ := Aside0.mk bq24_q3
                have n11_ := Aside0.mk bq11_q3
                bq208_q3
                clear HO_212000
                clear HO_216000
                clear HO_220000
                clear HO_225000
                clear HO228
                clear BK197
                clear BK198
                clear BK211
                clear BK215
                clear BK219
                clear BK224
                clear HB
                have HO_212000 := n0_
                have HO_216000 := n1_
                have HO_220000 := n2_
                have HO_225000 := n3_
                have HO228 := n4_
                have HO232 := n5_
                have BK197 := n6_
                have BK198 := n7_
                have BK211 := n8_
                have BK215 := n9_
                have BK219 := n10_
                have BK224 := n11_
                have HB := n12_
                bq189_q3
                (try clear hb)
                (try clear hb2)
                (try clear hk)
                (try clear hi)
                (try clear ho0)
                obtain ⟨Ao114, co114, eo114⟩ := Kd.R_slice HO232.out
                (first | subst eo114 | (injection eo114 with f1_ f2_ f3_; bq183_q3; subst f4_; subst f5_))
                bq203_q3
                clear hK K
                refine norm_ (a' := ?_) ?_ ?_
                rotate_left
                · show Act.put _ (some 61) _ = _
                  bq154_q3
                  rfl
                bq243_q3
                refine goes_ Try.func13 (by kernel_rfl) rfl #[.agg #[.slice Ao56 t216.length co56], .agg #[.slice Ao114 t230.length co114]] (by rfl) rfl rfl bq5_q3 ?_
                with_reducible refine (laws_eqPoset.calls kj24 _ _ t216 _ _ t230 true _ ?side1 ?side2 ?side3 ?side4 A103.out).mono ?_
                bq101_q3
                (case side2 => exact (Kd.R_reads' HO_220000.out).2.1)
                bq102_q3
                (case side4 => exact (Kd.R_reads' HO232.out).2.1)
                rintro e w115 ⟨rfl, hb⟩
                refine ⟨_, rfl, ?_⟩
                bq178_q3
                bq177_q3
                bq176_q3
                bq175_q3
                bq214_q3
                have n5_ := Aside0.mk (Kd.R_below (by bq2_q3; exact HO232.out) hb)
                have n6_ := Aside0.mk bq8_q3
                have n7_ := Aside0.mk bq9_q3
                have n8_ := Aside0.mk bq10_q3
                have n9_ := Aside0.mk bq19_q3
                have n10_ := Aside0.mk bq24_q3
                have n11_ := Aside0.mk bq11_q3
                bq208_q3
                clear HO_212000
                clear HO_216000
                clear HO_220000
                clear HO_225000
                clear HO228
                clear HO232
                clear BK197
                clear BK198
                clear BK211
                clear BK215
                clear BK219
                clear BK224
                clear HB
                have HO_212000 := n0_
                have HO_216000 := n1_
                have HO_220000 := n2_
                have HO_225000 := n3_
                have HO228 := n4_
                have HO232 := n5_
                have BK197 := n6_
                have BK198 := n7_
                have BK211 := n8_
                have BK215 := n9_
                have BK219 := n10_
                have BK224 := n11_
                have HB := n12_
                bq189_q3
                (try clear hb)
                (try clear hb2)
                (try clear hk)
                (try clear hi)
                bq203_q3
                clear hK K
                refine norm_ (a' := ?_) ?_ ?_
                rotate_left
                · show Act.put _ (some 62) _ = _
                  bq154_q3
                  rfl
                bq229_q3
                rotate_left
                · intro w'
                  go_simp
                  with_reducible rfl
                rotate_left
                · bq154_q3
                  rfl
                refine done_ (by kernel_rfl) ?_
                have hnb116 := NB215_197.out
                have hnc116 := NB197_215.out
                have hnb117 := NB215_198.out
                have hnc117 := NB198_215.out
                have hnb118 := NB215_211.out
                have hnc118 := NB211_215.out
                have hnb119 := NB215_219.out
                have hnc119 := NB219_215.out
                have hnb120 := NB215_224.out
                have hnc120 := NB224_215.out
                have hcz121_0 : w115.cell? ⟨gb215, 0, none⟩ = some (.slice Ao47 t212.length co47) := (blk_cell BK215.out 0).trans rfl
                have hfz121_0 := blk_frozen BK215.out 0
                go_upto_region 21 with (first | (bq108_q3; refine goesL_ (some 66) rfl rfl Try.func14 (by kernel_rfl) rfl #[.agg #[.slice Ao47 t212.length co47], .int .i64 1] rfl bq5_q3 ?_; (with_reducible refine (laws_markPoset.calls kj24 (fun k_ => some k_ = (.slice Ao47 t212.length co47 : Value).ownBlock) (.slice Ao47 t212.length co47) t212 1 t234 t235 w _ ?side1 ?side2 A105.out).mono ?_); (case side1 => repeat bq3_q3); (case side2 => exact Kd.R_tight rfl HO_216000.out); rintro e w122 ⟨rfl, hy0, hb, hkp⟩; refine ⟨_, rfl, ?_⟩; have n0_ := Aside0.mk (Kd.R_mono (ok' := fun k_ => some k_ ≠ (.slice Ao47 t212.length co47 : Value).ownBlock ∧ some k_ ≠ (.slice Ao56 t216.length co56 : Value).ownBlock ∧ some k_ ≠ (.slice Ao65 t220.length co65 : Value).ownBlock ∧ some k_ ≠ (.slice Ao110 t226.length co110 : Value).ownBlock ∧ some k_ ≠ (.slice Ao114 t230.length co114 : Value).ownBlock) (Kd.R_keptB (HO_212000.out) hkp (fun k_ hk_ hs_ => (hk_.1.1.1) hs_)) (fun k_ hk_ => ⟨hk_.1.1.1.1, hk_.1.1.1.2.1, hk_.1.1.1.2.2, hk_.1.1.2, hk_.1.2⟩)); have n1_ := Aside0.mk (Kd.R_reok rfl hy0 (fun k_ e_ => HO_216000.out.1 k_ e_)); have n2_ := Aside0.mk (Kd.R_mono (ok' := fun k_ => some k_ ≠ (.slice Ao41 t207.length co41 : Value).ownBlock ∧ some k_ ≠ (.slice Ao47 t212.length co47 : Value).ownBlock ∧ some k_ ≠ (.slice Ao65 t220.length co65 : Value).ownBlock ∧ some k_ ≠ (.slice Ao110 t226.length co110 : Value).ownBlock ∧ some k_ ≠ (.slice Ao114 t230.length co114 : Value).ownBlock) (Kd.R_keptB (HO_220000.out) hkp (fun k_ hk_ hs_ => (hk_.1.1.2.1) hs_)) (fun k_ hk_ => ⟨hk_.1.1.1.1, hk_.1.1.1.2.1, hk_.1.1.1.2.2, hk_.1.1.2, hk_.1.2⟩)); have n3_ := Aside0.mk (Kd.R_mono (ok' := fun k_ => some k_ ≠ (.slice Ao41 t207.length co41 : Value).ownBlock ∧ some k_ ≠ (.slice Ao47 t212.length co47 : Value).ownBlock ∧ some k_ ≠ (.slice Ao56 t216.length co56 : Value).ownBlock ∧ some k_ ≠ (.slice Ao110 t226.length co110 : Value).ownBlock ∧ some k_ ≠ (.slice Ao114 t230.length co114 : Value).ownBlock) (Kd.R_keptB (HO_225000.out) hkp (fun k_ hk_ hs_ => (hk_.1.1.2.1) hs_)) (fun k_ hk_ => ⟨hk_.1.1.1.1, hk_.1.1.1.2.1, hk_.1.1.1.2.2, hk_.1.1.2, hk_.1.2⟩)); have n4_ := Aside0.mk (blk_kept (by bq1_q3; exact BK197.out) hkp (fun hs_ => (fun e_ => (Kd.R_ne HO_216000.out BK197.out (by decide)) e_) hs_)); have n5_ := Aside0.mk (blk_kept (by bq1_q3; exact BK198.out) hkp (fun hs_ => (fun e_ => (Kd.R_ne HO_216000.out BK198.out (by decide)) e_) hs_)); have n6_ := Aside0.mk (blk_kept (by bq1_q3; exact BK211.out) hkp (fun hs_ => (fun e_ => (Kd.R_ne HO_216000.out BK211.out (by decide)) e_) hs_)); have n7_ := Aside0.mk (blk_kept (by bq1_q3; exact BK215.out) hkp (fun hs_ => (fun e_ => (Kd.R_ne HO_216000.out BK215.out (by decide)) e_) hs_)); have n8_ := Aside0.mk (blk_kept (by bq1_q3; exact BK219.out) hkp (fun hs_ => (fun e_ => (Kd.R_ne HO_216000.out BK219.out (by decide)) e_) hs_)); have n9_ := Aside0.mk (blk_kept (by bq1_q3; exact BK224.out) hkp (fun hs_ => (fun e_ => (Kd.R_ne HO_216000.out BK224.out (by decide)) e_) hs_)); have n10_ := Aside0.mk (Kd.R_mono (ok' := fun k_ => some k_ ≠ (.slice Ao41 t207.length co41 : Value).ownBlock ∧ some k_ ≠ (.slice Ao47 t212.length co47 : Value).ownBlock ∧ some k_ ≠ (.slice Ao56 t216.length co56 : Value).ownBlock ∧ some k_ ≠ (.slice Ao65 t220.length co65 : Value).ownBlock ∧ some k_ ≠ (.slice Ao114 t230.length co114 : Value).ownBlock) (Kd.R_keptB (HO228.out) hkp (fun k_ hk_ hs_ => (hk_.1.1.1.2) hs_)) (fun k_ hk_ => ⟨hk_.1.1.1.1.1.2, hk_.1.1.1.1.2, hk_.1.1.1.2, hk_.1.1.2, hk_.1.2⟩)); have n11_ := Aside0.mk (Kd.R_mono (ok' := fun k_ => some k_ ≠ (.slice Ao41 t207.length co41 : Value).ownBlock ∧ some k_ ≠ (.slice Ao47 t212.length co47 : Value).ownBlock ∧ some k_ ≠ (.slice Ao56 t216.length co56 : Value).ownBlock ∧ some k_ ≠ (.slice Ao65 t220.length co65 : Value).ownBlock ∧ some k_ ≠ (.slice Ao110 t226.length co110 : Value).ownBlock) (Kd.R_keptB (HO232.out) hkp (fun k_ hk_ hs_ => (hk_.1.1.1.2) hs_)) (fun k_ hk_ => ⟨hk_.1.1.1.1.1.2, hk_.1.1.1.1.2, hk_.1.1.1.2, hk_.1.1.2, hk_.1.2⟩)); have n12_ := Aside0.mk (hb); bq220_q3; bq163_q3; clear BK224; clear HO228; clear HO232; bq172_q3; bq228_q3; bq189_q3; (try clear hb); (try clear hkp); (try clear hy0); have hnb123 := NB219_197.out; have hnc123 := NB197_219.out; have hnb124 := NB219_198.out; have hnc124 := NB198_219.out; have hnb125 := NB219_211.out; have hnc125 := NB211_219.out; have hnb126 := NB219_224.out; have hnc126 := NB224_219.out; have hcz127_0 : w122.cell? ⟨gb219, 0, none⟩ = some (.slice Ao56 t216.length co56) := (blk_cell BK219.out 0).trans rfl; have hfz127_0 := blk_frozen BK219.out 0) | (bq108_q3; refine goesL_ (some 69) rfl rfl Try.func14 (by kernel_rfl) rfl #[.agg #[.slice Ao56 t216.length co56], .int .i64 t234] rfl bq5_q3 ?_; (with_reducible refine (laws_markPoset.calls kj24 (fun k_ => some k_ = (.slice Ao56 t216.length co56 : Value).ownBlock) (.slice Ao56 t216.length co56) t216 t234 t236 t237 w _ ?side1 ?side2 A106.out).mono ?_); (case side1 => repeat bq3_q3); (case side2 => exact Kd.R_tight rfl HO_220000.out); rintro e w128 ⟨rfl, hy0, hb, hkp⟩; refine ⟨_, rfl, ?_⟩; have n0_ := Aside0.mk (Kd.R_mono (ok' := fun k_ => some k_ ≠ (.slice Ao47 t212.length co47 : Value).ownBlock ∧ some k_ ≠ (.slice Ao56 t216.length co56 : Value).ownBlock ∧ some k_ ≠ (.slice Ao65 t220.length co65 : Value).ownBlock ∧ some k_ ≠ (.slice Ao110 t226.length co110 : Value).ownBlock ∧ some k_ ≠ (.slice Ao114 t230.length co114 : Value).ownBlock) (Kd.R_keptB (HO_212000.out) hkp (fun k_ hk_ hs_ => (hk_.2.1) hs_)) (fun k_ hk_ => ⟨hk_.1.1, hk_.1.2.1, hk_.1.2.2.1, hk_.1.2.2.2.1, hk_.1.2.2.2.2⟩)); have n1_ := Aside0.mk (Kd.R_mono (ok' := fun k_ => some k_ ≠ (.slice Ao41 t207.length co41 : Value).ownBlock ∧ some k_ ≠ (.slice Ao56 t216.length co56 : Value).ownBlock ∧ some k_ ≠ (.slice Ao65 t220.length co65 : Value).ownBlock ∧ some k_ ≠ (.slice Ao110 t226.length co110 : Value).ownBlock ∧ some k_ ≠ (.slice Ao114 t230.length co114 : Value).ownBlock) (Kd.R_keptB (HO_216000.out) hkp (fun k_ hk_ hs_ => (hk_.1.1.2.1) hs_)) (fun k_ hk_ => ⟨hk_.1.1.1.1, hk_.1.1.1.2.1, hk_.1.1.1.2.2, hk_.1.1.2, hk_.1.2⟩)); have n2_ := Aside0.mk (Kd.R_reok rfl hy0 (fun k_ e_ => HO_220000.out.1 k_ e_)); have n3_ := Aside0.mk (Kd.R_mono (ok' := fun k_ => some k_ ≠ (.slice Ao41 t207.length co41 : Value).ownBlock ∧ some k_ ≠ (.slice Ao47 t212.length co47 : Value).ownBlock ∧ some k_ ≠ (.slice Ao56 t216.length co56 : Value).ownBlock ∧ some k_ ≠ (.slice Ao110 t226.length co110 : Value).ownBlock ∧ some k_ ≠ (.slice Ao114 t230.length co114 : Value).ownBlock) (Kd.R_keptB (HO_225000.out) hkp (fun k_ hk_ hs_ => (hk_.2.2.1) hs_)) (fun k_ hk_ => ⟨hk_.1.1, hk_.1.2.1, hk_.1.2.2.1, hk_.1.2.2.2.1, hk_.1.2.2.2.2⟩)); have n4_ := Aside0.mk (blk_kept (by bq1_q3; exact BK197.out) hkp (fun hs_ => (fun e_ => (Kd.R_ne HO_220000.out BK197.out (by decide)) e_) hs_)); have n5_ := Aside0.mk (blk_kept (by bq1_q3; exact BK198.out) hkp (fun hs_ => (fun e_ => (Kd.R_ne HO_220000.out BK198.out (by decide)) e_) hs_)); have n6_ := Aside0.mk (blk_kept (by bq1_q3; exact BK211.out) hkp (fun hs_ => (fun e_ => (Kd.R_ne HO_220000.out BK211.out (by decide)) e_) hs_)); have n7_ := Aside0.mk (blk_kept (by bq1_q3; exact BK215.out) hkp (fun hs_ => (fun e_ => (Kd.R_ne HO_220000.out BK215.out (by decide)) e_) hs_)); have n8_ := Aside0.mk (blk_kept (by bq1_q3; exact BK219.out) hkp (fun hs_ => (fun e_ => (Kd.R_ne HO_220000.out BK219.out (by decide)) e_) hs_)); have n9_ := Aside0.mk (blk_kept (by bq1_q3; exact BK224.out) hkp (fun hs_ => (fun e_ => (Kd.R_ne HO_220000.out BK224.out (by decide)) e_) hs_)); have n10_ := Aside0.mk (Kd.R_mono (ok' := fun k_ => some k_ ≠ (.slice Ao41 t207.length co41 : Value).ownBlock ∧ some k_ ≠ (.slice Ao47 t212.length co47 : Value).ownBlock ∧ some k_ ≠ (.slice Ao56 t216.length co56 : Value).ownBlock ∧ some k_ ≠ (.slice Ao65 t220.length co65 : Value).ownBlock ∧ some k_ ≠ (.slice Ao114 t230.length co114 : Value).ownBlock) (Kd.R_keptB (HO228.out) hkp (fun k_ hk_ hs_ => (hk_.2.2.1) hs_)) (fun k_ hk_ => ⟨hk_.1.1, hk_.1.2.1, hk_.1.2.2.1, hk_.1.2.2.2.1, hk_.1.2.2.2.2⟩)); have n11_ := Aside0.mk (Kd.R_mono (ok' := fun k_ => some k_ ≠ (.slice Ao41 t207.length co41 : Value).ownBlock ∧ some k_ ≠ (.slice Ao47 t212.length co47 : Value).ownBlock ∧ some k_ ≠ (.slice Ao56 t216.length co56 : Value).ownBlock ∧ some k_ ≠ (.slice Ao65 t220.length co65 : Value).ownBlock ∧ some k_ ≠ (.slice Ao110 t226.length co110 : Value).ownBlock) (Kd.R_keptB (HO232.out) hkp (fun k_ hk_ hs_ => (hk_.2.2.1) hs_)) (fun k_ hk_ => ⟨hk_.1.1, hk_.1.2.1, hk_.1.2.2.1, hk_.1.2.2.2.1, hk_.1.2.2.2.2⟩)); have n12_ := Aside0.mk (hb); bq220_q3; bq163_q3; clear BK224; clear HO228; clear HO232; bq172_q3; bq228_q3; bq189_q3; (try clear hb); (try clear hkp); (try clear hy0)))
                (try simp only [Act.put, List.setIfInBounds_toArray, List.set_cons_zero, List.set_cons_succ])
                go_cut [82] (fun v82 wc => ∃ (kq : Nat) (x82_106 : Bool), v82 = .bool x82_106 ∧ Aside0 (laws_FnExactSumOf.j1 kq t210 x82_106 l0_0 l1_0 t207 t220 = some r) ∧ Aside0 (kq ≤ kj24) ∧ Aside0 (Kd.R (Kd.int .i64) 3 wc w.heap.size (fun k_ => some k_ ≠ ((.slice Ao47 t212.length co47) : Value).ownBlock ∧ some k_ ≠ ((.slice Ao56 t216.length co56) : Value).ownBlock ∧ some k_ ≠ ((.slice Ao65 t220.length co65) : Value).ownBlock) (.slice Ao41 t207.length co41) t207) ∧ Aside0 (Kd.R (Kd.int .i64) 3 wc w.heap.size (fun k_ => some k_ ≠ ((.slice Ao41 t207.length co41) : Value).ownBlock ∧ some k_ ≠ ((.slice Ao56 t216.length co56) : Value).ownBlock ∧ some k_ ≠ ((.slice Ao65 t220.length co65) : Value).ownBlock) (.slice Ao47 t212.length co47) t235) ∧ Aside0 (Kd.R (Kd.int .i64) 3 wc w.heap.size (fun k_ => some k_ ≠ ((.slice Ao41 t207.length co41) : Value).ownBlock ∧ some k_ ≠ ((.slice Ao47 t212.length co47) : Value).ownBlock ∧ some k_ ≠ ((.slice Ao65 t220.length co65) : Value).ownBlock) (.slice Ao56 t216.length co56) t237) ∧ Aside0 (Kd.R (Kd.int .i64) 3 wc w.heap.size (fun k_ => some k_ ≠ ((.slice Ao41 t207.length co41) : Value).ownBlock ∧ some k_ ≠ ((.slice Ao47 t212.length co47) : Value).ownBlock ∧ some k_ ≠ ((.slice Ao56 t216.length co56) : Value).ownBlock) (.slice Ao65 t220.length co65) t220) ∧ Aside0 (wc.heap[gb197]? = some (.cells #[(.slice A0_0 l0_0.length c0_0)] 24 (0, 0))) ∧ Aside0 (wc.heap[gb198]? = some (.cells #[(.slice A1_0 l1_0.length c1_0)] 24 (0, 0))) ∧ Aside0 (wc.heap[gb211]? = some (.cells #[(.slice Ao41 t207.length co41)] 26 (0, 0))) ∧ Aside0 (wc.heap[gb215]? = some (.cells #[(.slice Ao47 t212.length co47)] 26 (0, 0))) ∧ Aside0 (wc.heap[gb219]? = some (.cells #[(.slice Ao56 t216.length co56)] 26 (0, 0))) ∧ Aside0 (wc.heap[gb224]? = some (.cells #[(.slice Ao65 t220.length co65)] 26 (0, 0))) ∧ Aside0 (Below w.heap.size w wc))
                case first =>
                  have H := HC107.out
                  clear HC107
                  by_cases c129 : t236 < 0
                  · rw [if_pos c129] at H
                    have c129b0 : decide (t236 < 0) = true := decide_eq_true c129
                    clear c129
                    (first | rw [c129b0] | (simp only [i64_w, i32_w]; rw [c129b0]) | skip)
                    have H' := Aside0.mk H
                    clear H
                    go_wp2
                    go_meet
                    case rel => exact ⟨_, (true), (by first | rfl | (simp; done) | (simp [*]; done)), H', ⟨by have := HJ24.out; first | omega | exact Nat.le_refl _⟩, ⟨by bq2_q3; exact Kd.R_mono HO_212000.out (fun _ hk => ⟨hk.1, ⟨hk.2.1, hk.2.2.1⟩⟩)⟩, ⟨by bq2_q3; exact Kd.R_mono HO_216000.out (fun _ hk => ⟨hk.1, ⟨hk.2.1, hk.2.2.1⟩⟩)⟩, ⟨by bq2_q3; exact Kd.R_mono HO_220000.out (fun _ hk => ⟨hk.1, ⟨hk.2.1, hk.2.2.1⟩⟩)⟩, ⟨by bq2_q3; exact Kd.R_mono HO_225000.out (fun _ hk => ⟨hk.1, ⟨hk.2.1, hk.2.2.1⟩⟩)⟩, ⟨by bq1_q3; exact BK197.out⟩, ⟨by bq1_q3; exact BK198.out⟩, ⟨by bq1_q3; exact BK211.out⟩, ⟨by bq1_q3; exact BK215.out⟩, ⟨by bq1_q3; exact BK219.out⟩, ⟨by bq1_q3; exact BK224.out⟩, ⟨by repeat bq3_q3⟩⟩
                  · rw [if_neg c129] at H
                    have c129b0 : decide (t236 < 0) = false := decide_eq_false c129
                    clear c129
                    (first | rw [c129b0] | (simp only [i64_w, i32_w]; rw [c129b0]) | skip)
                    replace H := Option.bind_eq_some_iff.mp H
                    obtain ⟨t238, A1300, H⟩ := H
                    replace H : (if t238 = true then (laws_FnExactSumOf.j1 kj24 t210 (t223 != t210) l0_0 l1_0 t207 t220) else (laws_FnExactSumOf.j1 kj24 t210 true l0_0 l1_0 t207 t220)) = some r := H
                    have A130 := Aside0.mk A1300
                    clear A1300
                    by_cases c131 : t238 = true
                    · subst c131
                      have H1 : (laws_FnExactSumOf.j1 kj24 t210 (t223 != t210) l0_0 l1_0 t207 t220) = some r := by rw [if_pos rfl] at H; exact H
                      clear H
                      have H := H1
                      clear H1
                      have H' := Aside0.mk H
                      clear H
                      have hnb132 := NB224_197.out
                      have hnc132 := NB197_224.out
                      have hnb133 := NB224_198.out
                      have hnc133 := NB198_224.out
                      have hnb134 := NB224_211.out
                      have hnc134 := NB211_224.out
                      have hnb135 := NB224_215.out
                      have hnc135 := NB215_224.out
                      have hnb136 := NB224_219.out
                      have hnc136 := NB219_224.out
                      have hcz137_0 : w128.cell? ⟨gb224, 0, none⟩ = some (.slice Ao65 t220.length co65) := (blk_cell BK224.out 0).trans rfl
                      have hfz137_0 := blk_frozen BK224.out 0
                      have hnb138 := NB211_197.out
                      have hnc138 := NB197_211.out
                      have hnb139 := NB211_198.out
                      have hnc139 := NB198_211.out
                      have hnb140 := NB211_215.out
                      have hnc140 := NB215_211.out
                      have hnb141 := NB211_219.out
                      have hnc141 := NB219_211.out
                      have hcz142_0 : w128.cell? ⟨gb211, 0, none⟩ = some (.slice Ao41 t207.length co41) := (blk_cell BK211.out 0).trans rfl
                      have hfz142_0 := blk_frozen BK211.out 0
                      go_wp2_with (first | (go_at_call 13; (with_reducible refine (laws_eqPoset.calls kj24 _ _ t220 _ _ t207 true _ ?side1 ?side2 ?side3 ?side4 A130.out).mono ?_); bq20_q3; bq103_q3; bq100_q3; bq151_q3; rintro e w143 ⟨rfl, hb⟩; bq156_q3; bq181_q3; bq160_q3; bq233_q3; bq165_q3))
                      go_meet
                      case rel => exact ⟨_, ((t223 != t210)), (by first | rfl | (simp; done) | (simp [*]; done)), H', ⟨by have := HJ24.out; first | omega | exact Nat.le_refl _⟩, ⟨by bq2_q3; exact Kd.R_mono HO_212000.out (fun _ hk => ⟨hk.1, ⟨hk.2.1, hk.2.2.1⟩⟩)⟩, ⟨by bq2_q3; exact Kd.R_mono HO_216000.out (fun _ hk => ⟨hk.1, ⟨hk.2.1, hk.2.2.1⟩⟩)⟩, ⟨by bq2_q3; exact Kd.R_mono HO_220000.out (fun _ hk => ⟨hk.1, ⟨hk.2.1, hk.2.2.1⟩⟩)⟩, ⟨by bq2_q3; exact Kd.R_mono HO_225000.out (fun _ hk => ⟨hk.1, ⟨hk.2.1, hk.2.2.1⟩⟩)⟩, ⟨by bq1_q3; exact BK197.out⟩, ⟨by bq1_q3; exact BK198.out⟩, ⟨by bq1_q3; exact BK211.out⟩, ⟨by bq1_q3; exact BK215.out⟩, ⟨by bq1_q3; exact BK219.out⟩, ⟨by bq1_q3; exact BK224.out⟩, ⟨by repeat bq3_q3⟩⟩
                    · replace c131 := Bool.eq_false_iff.mpr c131
                      subst c131
                      have H1 : (laws_FnExactSumOf.j1 kj24 t210 true l0_0 l1_0 t207 t220) = some r := by rw [if_neg (show ¬ (false = true) by decide)] at H; exact H
                      clear H
                      have H := H1
                      clear H1
                      have H' := Aside0.mk H
                      clear H
                      have hnb144 := NB224_197.out
                      have hnc144 := NB197_224.out
                      have hnb145 := NB224_198.out
                      have hnc145 := NB198_224.out
                      have hnb146 := NB224_211.out
                      have hnc146 := NB211_224.out
                      have hnb147 := NB224_215.out
                      have hnc147 := NB215_224.out
                      have hnb148 := NB224_219.out
                      have hnc148 := NB219_224.out
                      have hcz149_0 : w128.cell? ⟨gb224, 0, none⟩ = some (.slice Ao65 t220.length co65) := (blk_cell BK224.out 0).trans rfl
                      have hfz149_0 := blk_frozen BK224.out 0
                      have hnb150 := NB211_197.out
                      have hnc150 := NB197_211.out
                      have hnb151 := NB211_198.out
                      have hnc151 := NB198_211.out
                      have hnb152 := NB211_215.out
                      have hnc152 := NB215_211.out
                      have hnb153 := NB211_219.out
                      have hnc153 := NB219_211.out
                      have hcz154_0 : w128.cell? ⟨gb211, 0, none⟩ = some (.slice Ao41 t207.length co41) := (blk_cell BK211.out 0).trans rfl
                      have hfz154_0 := blk_frozen BK211.out 0
                      go_wp2_with (first | (go_at_call 13; (with_reducible refine (laws_eqPoset.calls kj24 _ _ t220 _ _ t207 false _ ?side1 ?side2 ?side3 ?side4 A130.out).mono ?_); bq20_q3; bq103_q3; bq100_q3; bq151_q3; rintro e w155 ⟨rfl, hb⟩; bq156_q3; bq181_q3; bq160_q3; bq233_q3; bq165_q3))
                      go_meet
                      case rel => exact ⟨_, (true), (by first | rfl | (simp; done) | (simp [*]; done)), H', ⟨by have := HJ24.out; first | omega | exact Nat.le_refl _⟩, ⟨by bq2_q3; exact Kd.R_mono HO_212000.out (fun _ hk => ⟨hk.1, ⟨hk.2.1, hk.2.2.1⟩⟩)⟩, ⟨by bq2_q3; exact Kd.R_mono HO_216000.out (fun _ hk => ⟨hk.1, ⟨hk.2.1, hk.2.2.1⟩⟩)⟩, ⟨by bq2_q3; exact Kd.R_mono HO_220000.out (fun _ hk => ⟨hk.1, ⟨hk.2.1, hk.2.2.1⟩⟩)⟩, ⟨by bq2_q3; exact Kd.R_mono HO_225000.out (fun _ hk => ⟨hk.1, ⟨hk.2.1, hk.2.2.1⟩⟩)⟩, ⟨by bq1_q3; exact BK197.out⟩, ⟨by bq1_q3; exact BK198.out⟩, ⟨by bq1_q3; exact BK211.out⟩, ⟨by bq1_q3; exact BK215.out⟩, ⟨by bq1_q3; exact BK219.out⟩, ⟨by bq1_q3; exact BK224.out⟩, ⟨by repeat bq3_q3⟩⟩
                case rest =>
                  clear HC107
                  try clear c1
                  try clear p2
                  try clear c4
                  try clear c5
                  try clear c6
                  try clear c7
                  try clear c8
                  try clear c9
                  try clear c10
                  try clear c11
                  try clear c12
                  try clear c13
                  try clear c14
                  try clear c15
                  try clear c43
                  try clear c48
                  try clear c49
                  try clear c50
                  try clear c52
                  try clear c57
                  try clear c58
                  try clear c59
                  try clear c60
                  try clear c66
                  try clear c67
                  try clear c68
                  try clear c69
                  try clear c70
                  try clear c73
                  try clear c74
                  try clear c75
                  try clear c76
                  try clear c77
                  try clear c78
                  try clear c80
                  try clear c81
                  try clear c82
                  try clear c83
                  try clear c86
                  try clear c87
                  try clear c88
                  try clear c89
                  try clear c90
                  try clear c92
                  try clear c93
                  try clear c94
                  try clear c95
                  try clear c98
                  try clear c101
                  try clear c104
                  try clear c116
                  try clear c117
                  try clear c118
                  try clear c119
                  try clear c120
                  try clear c123
                  try clear c124
                  try clear c125
                  try clear c126
                  try clear c129
                  try clear c129b0
                  try clear c131
                  try clear c132
                  try clear c133
                  try clear c134
                  try clear c135
                  try clear c136
                  try clear c138
                  try clear c139
                  try clear c140
                  try clear c141
                  try clear c144
                  try clear c145
                  try clear c146
                  try clear c147
                  try clear c148
                  try clear c150
                  try clear c151
                  try clear c152
                  try clear c153
                  try clear hcz121_0
                  try clear hcz127_0
                  try clear hcz137_0
                  try clear hcz142_0
                  try clear hcz149_0
                  try clear hcz154_0
                  try clear hcz44_0
                  try clear hcz51_0
                  try clear hcz53_0
                  try clear hcz61_0
                  try clear hcz62_0
                  try clear hcz71_0
                  try clear hcz79_0
                  try clear hcz84_0
                  try clear hcz91_0
                  try clear hcz96_0
                  try clear hfz121_0
                  try clear hfz127_0
                  try clear hfz137_0
                  try clear hfz142_0
                  try clear hfz149_0
                  try clear hfz154_0
                  try clear hfz44_0
                  try clear hfz51_0
                  try clear hfz53_0
                  try clear hfz61_0
                  try clear hfz62_0
                  try clear hfz71_0
                  try clear hfz79_0
                  try clear hfz84_0
                  try clear hfz91_0
                  try clear hfz96_0
                  try clear p2
                  obtain ⟨kq, x82_106, rfl, HA, HJ106, HO_212000, HO_216000, HO_220000, HO_225000, BK197, BK198, BK211, BK215, BK219, BK224, HB⟩ := hcut
                  have hl216000_106 := (Kd.R_reads' HO_216000.out).1
                  rw [hl216000_106] at HO_216000
                  (try simp only [hl216000_106])
                  (try simp only [hl216000_106] at BK197)
                  (try simp only [hl216000_106] at BK198)
                  (try simp only [hl216000_106] at BK211)
                  (try simp only [hl216000_106] at BK215)
                  (try simp only [hl216000_106] at BK219)
                  (try simp only [hl216000_106] at BK224)
                  (try simp only [hl216000_106] at HO_212000)
                  (try simp only [hl216000_106] at HO_220000)
                  (try simp only [hl216000_106] at HO_225000)
                  have hl220000_106 := (Kd.R_reads' HO_220000.out).1
                  rw [hl220000_106] at HO_220000
                  (try simp only [hl220000_106])
                  (try simp only [hl220000_106] at BK197)
                  (try simp only [hl220000_106] at BK198)
                  (try simp only [hl220000_106] at BK211)
                  (try simp only [hl220000_106] at BK215)
                  (try simp only [hl220000_106] at BK219)
                  (try simp only [hl220000_106] at BK224)
                  (try simp only [hl220000_106] at HO_212000)
                  (try simp only [hl220000_106] at HO_216000)
                  (try simp only [hl220000_106] at HO_225000)
                  cases kq with
                  | zero => exact absurd HA.out (by simp [laws_FnExactSumOf.j1])
                  | succ kj106 =>
                    have H := HA.out
                    clear HA
                    simp only [laws_FnExactSumOf.j1] at H
                    by_cases c156 : x82_106 = true
                    · subst c156
                      bq236_q3
                      clear H
                      have H := H1
                      clear H1
                      obtain rfl := Option.some.inj H
                      go_wp2
                      go_ret
                      bq171_q3
                    · replace c156 := Bool.eq_false_iff.mpr c156
                      subst c156
                      have H1 : ((laws_markPoset.f kj106 t220 1).bind fun bt239 => ((laws_heldPoset.f kj106 bt239.2 1).bind fun t241 => (if t241 < 0 then (some false) else (if t241 = bt239.1 then ((laws_toPoset.f kj106 l0_0).bind fun t242 => ((laws_toPoset.f kj106 l1_0).bind fun t245 => ((impl_SumOf.f kj106 t242 t245).bind fun bt248 => ((laws_eqPoset.f kj106 bt248.1 t207).bind fun t253 => (if t253 = true then (laws_FnExactSumOf.j2 kj106 bt239.1 (bt248.2 != t210) bt239.2) else (laws_FnExactSumOf.j2 kj106 bt239.1 true bt239.2)))))) else (some false))))) = some r := by rw [if_neg (show ¬ (false = true) by decide)] at H; exact H
                      clear H
                      have H := H1
                      clear H1
                      replace H := Option.bind_eq_some_iff.mp H
                      obtain ⟨⟨t239, t240⟩, A1570, H⟩ := H
                      replace H : ((laws_heldPoset.f kj106 t240 1).bind fun t241 => (if t241 < 0 then (some false) else (if t241 = t239 then ((laws_toPoset.f kj106 l0_0).bind fun t242 => ((laws_toPoset.f kj106 l1_0).bind fun t245 => ((impl_SumOf.f kj106 t242 t245).bind fun bt248 => ((laws_eqPoset.f kj106 bt248.1 t207).bind fun t253 => (if t253 = true then (laws_FnExactSumOf.j2 kj106 t239 (bt248.2 != t210) t240) else (laws_FnExactSumOf.j2 kj106 t239 true t240)))))) else (some false)))) = some r := H
                      have A157 := Aside0.mk A1570
                      clear A1570
                      replace H := Option.bind_eq_some_iff.mp H
                      obtain ⟨t241, A1580, H⟩ := H
                      replace H : (if t241 < 0 then (some false) else (if t241 = t239 then ((laws_toPoset.f kj106 l0_0).bind fun t242 => ((laws_toPoset.f kj106 l1_0).bind fun t245 => ((impl_SumOf.f kj106 t242 t245).bind fun bt248 => ((laws_eqPoset.f kj106 bt248.1 t207).bind fun t253 => (if t253 = true then (laws_FnExactSumOf.j2 kj106 t239 (bt248.2 != t210) t240) else (laws_FnExactSumOf.j2 kj106 t239 true t240)))))) else (some false))) = some r := H
                      have A158 := Aside0.mk A1580
                      clear A1580
                      by_cases c159 : t241 < 0
                      · rw [if_pos c159] at H
                        have c159b0 : decide (t241 < 0) = true := decide_eq_true c159
                        clear c159
                        obtain rfl := Option.some.inj H
                        have hnb160 := NB224_197.out
                        have hnc160 := NB197_224.out
                        have hnb161 := NB224_198.out
                        have hnc161 := NB198_224.out
                        have hnb162 := NB224_211.out
                        have hnc162 := NB211_224.out
                        have hnb163 := NB224_215.out
                        have hnc163 := NB215_224.out
                        have hnb164 := NB224_219.out
                        have hnc164 := NB219_224.out
                        have hcz165_0 : wc.cell? ⟨gb224, 0, none⟩ = some (.slice Ao65 t220.length co65) := (blk_cell BK224.out 0).trans rfl
                        have hfz165_0 := blk_frozen BK224.out 0
                        go_wp2_with (first | (bq108_q3; bq212_q3; bq54_q3; bq232_q3; rintro e w166 ⟨rfl, hy0, hb, hkp⟩; bq162_q3; clear HO_225000; bq163_q3; bq157_q3; (try clear hkp); (try clear hy0); have hcz167_0 : w166.cell? ⟨gb224, 0, none⟩ = some (.slice Ao65 t220.length co65) := (blk_cell BK224.out 0).trans rfl; have hfz167_0 := blk_frozen BK224.out 0) | (bq82_q3; bq209_q3; bq99_q3; bq20_q3; bq75_q3; rintro e w168 ⟨rfl, hb⟩; refine ⟨_, rfl, ?_⟩; bq156_q3; bq170_q3; bq163_q3; bq157_q3; bq206_q3))
                        go_ret
                        bq171_q3
                      · rw [if_neg c159] at H
                        have c159b0 : decide (t241 < 0) = false := decide_eq_false c159
                        clear c159
                        by_cases c169 : t241 = t239
                        · rw [if_pos c169] at H
                          have c169b0 : (t241 == t239) = true := beq_iff_eq.mpr c169
                          have c169b1 : (t241 != t239) = false := bne_eq_false_iff_eq.mpr c169
                          clear c169
                          replace H := Option.bind_eq_some_iff.mp H
                          obtain ⟨t242, A1700, H⟩ := H
                          replace H : ((laws_toPoset.f kj106 l1_0).bind fun t245 => ((impl_SumOf.f kj106 t242 t245).bind fun bt248 => ((laws_eqPoset.f kj106 bt248.1 t207).bind fun t253 => (if t253 = true then (laws_FnExactSumOf.j2 kj106 t239 (bt248.2 != t210) t240) else (laws_FnExactSumOf.j2 kj106 t239 true t240))))) = some r := H
                          have A170 := Aside0.mk A1700
                          clear A1700
                          replace H := Option.bind_eq_some_iff.mp H
                          obtain ⟨t245, A1710, H⟩ := H
                          replace H : ((impl_SumOf.f kj106 t242 t245).bind fun bt248 => ((laws_eqPoset.f kj106 bt248.1 t207).bind fun t253 => (if t253 = true then (laws_FnExactSumOf.j2 kj106 t239 (bt248.2 != t210) t240) else (laws_FnExactSumOf.j2 kj106 t239 true t240)))) = some r := H
                          have A171 := Aside0.mk A1710
                          clear A1710
                          replace H := Option.bind_eq_some_iff.mp H
                          obtain ⟨⟨t248, t251⟩, A1720, H⟩ := H
                          replace H : ((laws_eqPoset.f kj106 t248 t207).bind fun t253 => (if t253 = true then (laws_FnExactSumOf.j2 kj106 t239 (t251 != t210) t240) else (laws_FnExactSumOf.j2 kj106 t239 true t240))) = some r := H
                          have A172 := Aside0.mk A1720
                          clear A1720
                          have HC173 := Aside0.mk H
                          clear H
                          have hnb174 := NB224_197.out
                          have hnc174 := NB197_224.out
                          have hnb175 := NB224_198.out
                          have hnc175 := NB198_224.out
                          have hnb176 := NB224_211.out
                          have hnc176 := NB211_224.out
                          have hnb177 := NB224_215.out
                          have hnc177 := NB215_224.out
                          have hnb178 := NB224_219.out
                          have hnc178 := NB219_224.out
                          have hcz179_0 : wc.cell? ⟨gb224, 0, none⟩ = some (.slice Ao65 t220.length co65) := (blk_cell BK224.out 0).trans rfl
                          have hfz179_0 := blk_frozen BK224.out 0
                          try go_wp2_with (first | (bq108_q3; bq212_q3; bq54_q3; bq232_q3; rintro e w180 ⟨rfl, hy0, hb, hkp⟩; bq162_q3; clear HO_225000; bq163_q3; bq157_q3; (try clear hkp); (try clear hy0); have hcz181_0 : w180.cell? ⟨gb224, 0, none⟩ = some (.slice Ao65 t220.length co65) := (blk_cell BK224.out 0).trans rfl; have hfz181_0 := blk_frozen BK224.out 0) | (bq82_q3; bq209_q3; bq99_q3; bq20_q3; bq75_q3; rintro e w182 ⟨rfl, hb⟩; refine ⟨_, rfl, ?_⟩; bq156_q3; bq170_q3; bq163_q3; bq157_q3; bq206_q3))
                          have n0_ := Aside0.mk (Kd.R_drew HO_212000.out)
                          have n1_ := Aside0.mk (Kd.R_drew HO_216000.out)
                          have n2_ := Aside0.mk (Kd.R_drew HO_220000.out)
                          have n3_ := Aside0.mk (Kd.R_drew HO_225000.out)
                          have n4_ := Aside0.mk (blk_drew BK197.out)
                          have n5_ := Aside0.mk (blk_drew BK198.out)
                          have n6_ := Aside0.mk (blk_drew BK211.out)
                          have n7_ := Aside0.mk (blk_drew BK215.out)
                          have n8_ := Aside0.mk (blk_drew BK219.out)
                          have n9_ := Aside0.mk (blk_drew BK224.out)
                          have n10_ := Aside0.mk (below_drew1 HB.out)
                          clear HO_212000
                          clear HO_216000
                          clear HO_220000
                          clear HO_225000
                          clear BK197
                          clear BK198
                          clear BK211
                          clear BK215
                          clear BK219
                          clear BK224
                          clear HB
                          have HO_212000 := n0_
                          have HO_216000 := n1_
                          have HO_220000 := n2_
                          have HO_225000 := n3_
                          have BK197 := n4_
                          have BK198 := n5_
                          have BK211 := n6_
                          have BK215 := n7_
                          have BK219 := n8_
                          have BK224 := n9_
                          have HB := n10_
                          clear n0_ n1_ n2_ n3_ n4_ n5_ n6_ n7_ n8_ n9_ n10_
                          refine start_ (n := 11) (S := fun w' => w'.cell? ⟨gb197, 0, none⟩ = some (.slice A0_0 l0_0.length c0_0) ∧ w'.cell? ⟨gb198, 0, none⟩ = some (.slice A1_0 l1_0.length c1_0)) (ds := []) #[false, false, false, false, false, false, false, false, false, false, false] (by kernel_rfl) rfl rfl ⟨(blk_cell BK197.out 0).trans rfl, (blk_cell BK198.out 0).trans rfl⟩ (fun hHeld => ?_); refine with_tabW laws_FnExactSumOf.tab31 laws_FnExactSumOf.bits31 (fun HT_ HW_ => ?_)
                          generalize w182.drew = w183 at HO_212000 HO_216000 HO_220000 HO_225000 BK197 BK198 BK211 BK215 BK219 BK224 HB hHeld ⊢
                          refine take_ (i := 0) (N := some 95) (v := ?_) (a' := ?_) #[true, false, false, false, false, false, false, false, false, false, false] rfl rfl (take_ofW HT_.out HW_.out (by kernel_rfl)) (fun _ _ _ h => h) (Or.inl ⟨by rfl, ?_⟩) hHeld ?_ ?_
                          rotate_left
                          · rintro w' ⟨s0, s1⟩
                            go_simp
                            with_reducible rfl
                          rotate_left
                          · bq154_q3
                            rfl
                          refine take_ (i := 2) (N := some 97) (v := ?_) (a' := ?_) #[true, false, true, false, false, false, false, false, false, false, false] rfl rfl (take_ofW HT_.out HW_.out (by kernel_rfl)) (fun _ _ _ h => h) (Or.inl ⟨by rfl, ?_⟩) hHeld ?_ ?_
                          rotate_left
                          · rintro w' ⟨s0, s1⟩
                            go_simp
                            with_reducible rfl
                          rotate_left
                          · bq154_q3
                            rfl
                          refine join_ (σ := Value × Value × Value × Nat) 2 #[true, true, true, true, true, true, true, true, true, false, false] (fun s_ => [(96, .agg #[s_.1]), (98, .agg #[s_.2.1]), (99, .tuple #[.agg #[s_.2.2.1], .bool t251]), (15, .pointer (some ⟨s_.2.2.2, 0, none⟩)), (94, .tuple #[.agg #[s_.2.2.1], .bool t251]), (100, .agg #[s_.2.2.1]), (101, .bool t251)]) (fun s_ w' => (w'.cell? ⟨gb197, 0, none⟩ = some (.slice A0_0 l0_0.length c0_0) ∧ w'.cell? ⟨gb198, 0, none⟩ = some (.slice A1_0 l1_0.length c1_0)) ∧ (Kd.R (Kd.int .i64) 3 w' w.heap.size (fun k_ => some k_ ≠ (s_.2.1 : Value).ownBlock ∧ some k_ ≠ (s_.2.2.1 : Value).ownBlock ∧ some k_ ≠ (.slice Ao41 t207.length co41 : Value).ownBlock ∧ some k_ ≠ (.slice Ao47 t235.length co47 : Value).ownBlock ∧ some k_ ≠ (.slice Ao56 t237.length co56 : Value).ownBlock ∧ some k_ ≠ (.slice Ao65 t220.length co65 : Value).ownBlock) s_.1 t242) ∧ (Kd.R (Kd.int .i64) 3 w' w.heap.size (fun k_ => some k_ ≠ (s_.1 : Value).ownBlock ∧ some k_ ≠ (s_.2.2.1 : Value).ownBlock ∧ some k_ ≠ (.slice Ao41 t207.length co41 : Value).ownBlock ∧ some k_ ≠ (.slice Ao47 t235.length co47 : Value).ownBlock ∧ some k_ ≠ (.slice Ao56 t237.length co56 : Value).ownBlock ∧ some k_ ≠ (.slice Ao65 t220.length co65 : Value).ownBlock) s_.2.1 t245) ∧ (Kd.R (Kd.int .i64) 3 w' w.heap.size (fun k_ => some k_ ≠ (s_.1 : Value).ownBlock ∧ some k_ ≠ (s_.2.1 : Value).ownBlock ∧ some k_ ≠ (.slice Ao41 t207.length co41 : Value).ownBlock ∧ some k_ ≠ (.slice Ao47 t235.length co47 : Value).ownBlock ∧ some k_ ≠ (.slice Ao56 t237.length co56 : Value).ownBlock ∧ some k_ ≠ (.slice Ao65 t220.length co65 : Value).ownBlock) s_.2.2.1 t248) ∧ (Kd.R (Kd.int .i64) 3 w' w.heap.size (fun k_ => some k_ ≠ (s_.1 : Value).ownBlock ∧ some k_ ≠ (s_.2.1 : Value).ownBlock ∧ some k_ ≠ (s_.2.2.1 : Value).ownBlock ∧ some k_ ≠ (.slice Ao47 t235.length co47 : Value).ownBlock ∧ some k_ ≠ (.slice Ao56 t237.length co56 : Value).ownBlock ∧ some k_ ≠ (.slice Ao65 t220.length co65 : Value).ownBlock) (.slice Ao41 t207.length co41) t207) ∧ (Kd.R (Kd.int .i64) 3 w' w.heap.size (fun k_ => some k_ ≠ (s_.1 : Value).ownBlock ∧ some k_ ≠ (s_.2.1 : Value).ownBlock ∧ some k_ ≠ (s_.2.2.1 : Value).ownBlock ∧ some k_ ≠ (.slice Ao41 t207.length co41 : Value).ownBlock ∧ some k_ ≠ (.slice Ao56 t237.length co56 : Value).ownBlock ∧ some k_ ≠ (.slice Ao65 t220.length co65 : Value).ownBlock) (.slice Ao47 t235.length co47) t235) ∧ (Kd.R (Kd.int .i64) 3 w' w.heap.size (fun k_ => some k_ ≠ (s_.1 : Value).ownBlock ∧ some k_ ≠ (s_.2.1 : Value).ownBlock ∧ some k_ ≠ (s_.2.2.1 : Value).ownBlock ∧ some k_ ≠ (.slice Ao41 t207.length co41 : Value).ownBlock ∧ some k_ ≠ (.slice Ao47 t235.length co47 : Value).ownBlock ∧ some k_ ≠ (.slice Ao65 t220.length co65 : Value).ownBlock) (.slice Ao56 t237.length co56) t237) ∧ (Kd.R (Kd.int .i64) 3 w' w.heap.size (fun k_ => some k_ ≠ (s_.1 : Value).ownBlock ∧ some k_ ≠ (s_.2.1 : Value).ownBlock ∧ some k_ ≠ (s_.2.2.1 : Value).ownBlock ∧ some k_ ≠ (.slice Ao41 t207.length co41 : Value).ownBlock ∧ some k_ ≠ (.slice Ao47 t235.length co47 : Value).ownBlock ∧ some k_ ≠ (.slice Ao56 t237.length co56 : Value).ownBlock) (.slice Ao65 t220.length co65) t240) ∧ (w'.heap[gb197]? = some (.cells #[.slice A0_0 l0_0.length c0_0] 24 (0, 0))) ∧ (w'.heap[gb198]? = some (.cells #[.slice A1_0 l1_0.length c1_0] 24 (0, 0))) ∧ (w'.heap[gb211]? = some (.cells #[.slice Ao41 t207.length co41] 26 (0, 0))) ∧ (w'.heap[gb215]? = some (.cells #[.slice Ao47 t235.length co47] 26 (0, 0))) ∧ (w'.heap[gb219]? = some (.cells #[.slice Ao56 t237.length co56] 26 (0, 0))) ∧ (w'.heap[gb224]? = some (.cells #[.slice Ao65 t220.length co65] 26 (0, 0))) ∧ (w'.heap[s_.2.2.2]? = some (.cells #[.slice none 0 0] 26 (0, 0))) ∧ (w.heap.size ≤ s_.2.2.2) ∧ (w.heap.size ≤ s_.2.2.2) ∧ (gb197 ≠ s_.2.2.2) ∧ (s_.2.2.2 ≠ gb197) ∧ (gb198 ≠ s_.2.2.2) ∧ (s_.2.2.2 ≠ gb198) ∧ (gb211 ≠ s_.2.2.2) ∧ (s_.2.2.2 ≠ gb211) ∧ (gb215 ≠ s_.2.2.2) ∧ (s_.2.2.2 ≠ gb215) ∧ (gb219 ≠ s_.2.2.2) ∧ (s_.2.2.2 ≠ gb219) ∧ (gb224 ≠ s_.2.2.2) ∧ (s_.2.2.2 ≠ gb224) ∧ (Below w.heap.size w w')) ?_ ?_
                          rotate_left
                          · intro hCont
                            refine two_ (i := 1) (j := 8) (Ni := some 96) (Nj := some 15) #[true, true, true, false, false, false, false, false, false, false, false] #[true, false, true, false, false, false, false, false, true, false, false] rfl rfl rfl rfl (two_of HT_.out (by kernel_rfl)) (by decide) (by decide) (fun K hK => ?_) (fun K hK => ?_)
                            · skip
                              bq169_q3
                              with_reducible refine (laws_toPoset.calls kj106 _ _ l0_0 t242 _ ?side1 ?side2 A170.out).mono ?_
                              bq18_q3
                              (case side2 => exact HC0_0.out)
                              rintro e w184 ⟨v243, rfl, ho0, hb⟩
                              refine ⟨_, rfl, ?_⟩
                              have n0_ := Aside0.mk bq30_q3
                              have n1_ := Aside0.mk bq29_q3
                              have n2_ := Aside0.mk bq28_q3
                              have n3_ := Aside0.mk bq27_q3
                              have n4_ := Aside0.mk bq153_q3
                              have n5_ := Aside0.mk bq8_q3
                              have n6_ := Aside0.mk bq9_q3
                              have n7_ := Aside0.mk bq10_q3
                              have n8_ := Aside0.mk bq16_q3
                              have n9_ := Aside0.mk bq15_q3
                              have n10_ := Aside0.mk bq11_q3
                              bq192_q3
                              clear HO_212000
                              clear HO_216000
                              clear HO_220000
                              clear HO_225000
                              clear BK197
                              clear BK198
                              clear BK211
                              clear BK215
                              clear BK219
                              clear BK224
                              clear HB
                              have HO_212000 := n0_
                              have HO_216000 := n1_
                              have HO_220000 := n2_
                              have HO_225000 := n3_
                              have HO244 := n4_
                              have BK197 := n5_
                              have BK198 := n6_
                              have BK211 := n7_
                              have BK215 := n8_
                              have BK219 := n9_
                              have BK224 := n10_
                              have HB := n11_
                              bq210_q3
                              (try clear hb)
                              (try clear hb2)
                              (try clear hk)
                              (try clear hi)
                              (try clear ho0)
                              bq155_q3
                              clear hK K
                              refine norm_ (a' := ?_) ?_ ?_
                              rotate_left
                              · show Act.put _ (some 96) _ = _
                                bq154_q3
                                rfl
                              refine two_ (i := 3) (j := 8) (Ni := some 98) (Nj := some 15) #[true, true, true, true, false, false, false, false, false, false, false] #[true, true, true, false, false, false, false, false, true, false, false] rfl rfl rfl rfl (two_of HT_.out (by kernel_rfl)) (by decide) (by decide) (fun K hK => ?_) (fun K hK => ?_)
                              · skip
                                bq166_q3
                                with_reducible refine (laws_toPoset.calls kj106 _ _ l1_0 t245 _ ?side1 ?side2 A171.out).mono ?_
                                bq17_q3
                                (case side2 => exact HC1_0.out)
                                rintro e w185 ⟨v246, rfl, ho0, hb⟩
                                refine ⟨_, rfl, ?_⟩
                                have n0_ := Aside0.mk bq30_q3
                                have n1_ := Aside0.mk bq29_q3
                                have n2_ := Aside0.mk bq28_q3
                                have n3_ := Aside0.mk bq27_q3
                                have n4_ := Aside0.mk bq66_q3
                                have n5_ := Aside0.mk (Kd.R_lower (Kd.R_new' bq12_q3 (Kd.R_lt (by bq2_q3; exact HO244.out))) (below_size (by repeat bq3_q3)))
                                have n6_ := Aside0.mk bq8_q3
                                have n7_ := Aside0.mk bq9_q3
                                have n8_ := Aside0.mk bq10_q3
                                have n9_ := Aside0.mk bq16_q3
                                have n10_ := Aside0.mk bq15_q3
                                have n11_ := Aside0.mk bq11_q3
                                bq208_q3
                                clear HO_212000
                                clear HO_216000
                                clear HO_220000
                                clear HO_225000
                                clear HO244
                                clear BK197
                                clear BK198
                                clear BK211
                                clear BK215
                                clear BK219
                                clear BK224
                                clear HB
                                have HO_212000 := n0_
                                have HO_216000 := n1_
                                have HO_220000 := n2_
                                have HO_225000 := n3_
                                have HO244 := n4_
                                have HO247 := n5_
                                have BK197 := n6_
                                have BK198 := n7_
                                have BK211 := n8_
                                have BK215 := n9_
                                have BK219 := n10_
                                have BK224 := n11_
                                have HB := n12_
                                bq189_q3
                                (try clear hb)
                                (try clear hb2)
                                (try clear hk)
                                (try clear hi)
                                (try clear ho0)
                                obtain ⟨Ao186, co186, eo186⟩ := Kd.R_slice HO244.out
                                (first | subst eo186 | (injection eo186 with f1_ f2_ f3_; bq183_q3; subst f4_; subst f5_))
                                obtain ⟨Ao187, co187, eo187⟩ := Kd.R_slice HO247.out
                                bq52_q3
                                bq155_q3
                                clear hK K
                                refine norm_ (a' := ?_) ?_ ?_
                                rotate_left
                                · show Act.put _ (some 98) _ = _
                                  bq154_q3
                                  rfl
                                refine two_ (i := 4) (j := 8) (Ni := some 99) (Nj := some 15) #[true, true, true, true, true, false, false, false, false, false, false] #[true, true, true, true, false, false, false, false, true, false, false] rfl rfl rfl rfl (two_of HT_.out (by kernel_rfl)) (by decide) (by decide) (fun K hK => ?_) (fun K hK => ?_)
                                · skip
                                  refine goes_ Try.func12 (by kernel_rfl) rfl #[.agg #[.slice Ao186 t242.length co186], .agg #[.slice Ao187 t245.length co187]] (by rfl) rfl rfl bq5_q3 ?_
                                  with_reducible refine (impl_SumOf.calls kj106 _ _ t242 _ _ t245 t248 t251 _ ?side1 ?side2 ?side3 ?side4 A172.out).mono ?_
                                  bq45_q3
                                  (case side2 => exact (Kd.R_reads' HO244.out).2.1)
                                  bq43_q3
                                  (case side4 => exact (Kd.R_reads' HO247.out).2.1)
                                  rintro e w188 ⟨v249, rfl, ho0, hb⟩
                                  refine ⟨_, rfl, ?_⟩
                                  have n0_ := Aside0.mk bq30_q3
                                  have n1_ := Aside0.mk bq29_q3
                                  have n2_ := Aside0.mk bq28_q3
                                  have n3_ := Aside0.mk bq27_q3
                                  have n4_ := Aside0.mk bq66_q3
                                  have n5_ := Aside0.mk bq122_q3
                                  have n6_ := Aside0.mk (Kd.R_lower bq68_q3 (below_size (by repeat bq3_q3)))
                                  have n7_ := Aside0.mk bq8_q3
                                  have n8_ := Aside0.mk bq9_q3
                                  have n9_ := Aside0.mk bq10_q3
                                  have n10_ := Aside0.mk bq16_q3
                                  have n11_ := Aside0.mk bq15_q3
                                  have n12_ := Aside0.mk bq11_q3
                                  have n13_ := Aside0.mk (below_step (by repeat bq3_q3) hb)
                                  clear HO_212000
                                  clear HO_216000
                                  clear HO_220000
                                  clear HO_225000
                                  clear HO244
                                  clear HO247
                                  clear BK197
                                  clear BK198
                                  clear BK211
                                  clear BK215
                                  clear BK219
                                  clear BK224
                                  clear HB
                                  have HO_212000 := n0_
                                  have HO_216000 := n1_
                                  have HO_220000 := n2_
                                  have HO_225000 := n3_
                                  have HO244 := n4_
                                  have HO247 := n5_
                                  have HO250 := n6_
                                  have BK197 := n7_
                                  have BK198 := n8_
                                  have BK211 := n9_
                                  have BK215 := n10_
                                  have BK219 := n11_
                                  have BK224 := n12_
                                  have HB := n13_
                                  bq246_q3
                                  (try clear hb)
                                  (try clear hb2)
                                  (try clear hk)
                                  (try clear hi)
                                  (try clear ho0)
                                  bq155_q3
                                  clear hK K
                                  refine norm_ (a' := ?_) ?_ ?_
                                  rotate_left
                                  · show Act.put _ (some 99) _ = _
                                    bq154_q3
                                    rfl
                                  refine pure_ (i := 5) (N := some 94) (v := ?_) (a' := ?_) #[true, true, true, true, true, true, false, false, false, false, false] rfl rfl (any_of HT_.out (by kernel_rfl)) (fun _ _ _ h => h) (Or.inl ⟨by rfl, ?_⟩) ?_ ?_
                                  rotate_left
                                  · intro w'
                                    go_simp
                                    with_reducible rfl
                                  rotate_left
                                  · bq154_q3
                                    rfl
                                  refine pure_ (i := 6) (N := some 100) (v := ?_) (a' := ?_) #[true, true, true, true, true, true, true, false, false, false, false] rfl rfl (any_of HT_.out (by kernel_rfl)) (fun _ _ _ h => h) (Or.inl ⟨by rfl, ?_⟩) ?_ ?_
                                  rotate_left
                                  · intro w'
                                    go_simp
                                    with_reducible rfl
                                  rotate_left
                                  · bq154_q3
                                    rfl
                                  refine pure_ (i := 7) (N := some 101) (v := ?_) (a' := ?_) #[true, true, true, true, true, true, true, true, false, false, false] rfl rfl (any_of HT_.out (by kernel_rfl)) (fun _ _ _ h => h) (Or.inl ⟨by rfl, ?_⟩) ?_ ?_
                                  rotate_left
                                  · intro w'
                                    go_simp
                                    with_reducible rfl
                                  rotate_left
                                  · bq154_q3
                                    rfl
                                  refine one_ (i := 8) (N := some 15) #[true, true, true, true, true, true, true, true, true, false, false] rfl rfl (one_of HT_.out (by kernel_rfl)) (by decide) (fun K hK => ?_)
                                  bq199_q3; bq31_q3
                                  intro gb252 hg w189 hbox hb
                                  bq178_q3
                                  bq177_q3
                                  bq176_q3
                                  bq175_q3
                                  bq239_q3
                                  have n5_ := Aside0.mk (Kd.R_below (by bq2_q3; exact HO247.out) hb)
                                  have n6_ := Aside0.mk (Kd.R_below (by bq2_q3; exact HO250.out) hb)
                                  have n7_ := Aside0.mk bq8_q3
                                  have n8_ := Aside0.mk bq9_q3
                                  have n9_ := Aside0.mk bq10_q3
                                  have n10_ := Aside0.mk bq16_q3
                                  have n11_ := Aside0.mk bq15_q3
                                  have n12_ := Aside0.mk bq11_q3
                                  have n13_ := Aside0.mk (below_step (by repeat bq3_q3) hb)
                                  have n14_ := Aside0.mk (hbox)
                                  have n15_ := Aside0.mk (bq48_q3)
                                  have n16_ := Aside0.mk (bq48_q3)
                                  have n17_ := Aside0.mk (bq141_q3)
                                  have n18_ := Aside0.mk (bq149_q3)
                                  have n19_ := Aside0.mk (bq139_q3)
                                  have n20_ := Aside0.mk (bq147_q3)
                                  have n21_ := Aside0.mk (bq138_q3)
                                  have n22_ := Aside0.mk (bq146_q3)
                                  have n23_ := Aside0.mk (bq135_q3)
                                  have n24_ := Aside0.mk (bq143_q3)
                                  have n25_ := Aside0.mk (bq136_q3)
                                  have n26_ := Aside0.mk (bq144_q3)
                                  have n27_ := Aside0.mk (bq137_q3)
                                  have n28_ := Aside0.mk (bq145_q3)
                                  clear HO_212000
                                  clear HO_216000
                                  clear HO_220000
                                  clear HO_225000
                                  clear HO244
                                  clear HO247
                                  clear HO250
                                  clear BK197
                                  clear BK198
                                  clear BK211
                                  clear BK215
                                  clear BK219
                                  clear BK224
                                  clear HB
                                  have HO_212000 := n0_
                                  have HO_216000 := n1_
                                  have HO_220000 := n2_
                                  have HO_225000 := n3_
                                  have HO244 := n4_
                                  have HO247 := n5_
                                  have HO250 := n6_
                                  have BK197 := n7_
                                  have BK198 := n8_
                                  have BK211 := n9_
                                  have BK215 := n10_
                                  have BK219 := n11_
                                  have BK224 := n12_
                                  have HB := n13_
                                  have BK252 := n14_
                                  have GW252 := n15_
                                  have GE252 := n16_
                                  have NB197_252 := n17_
                                  have NB252_197 := n18_
                                  have NB198_252 := n19_
                                  have NB252_198 := n20_
                                  have NB211_252 := n21_
                                  have NB252_211 := n22_
                                  have NB215_252 := n23_
                                  have NB252_215 := n24_
                                  have NB219_252 := n25_
                                  have NB252_219 := n26_
                                  have NB224_252 := n27_
                                  have NB252_224 := n28_
                                  bq245_q3
                                  clear hb hbox hg
                                  bq155_q3
                                  clear hK K
                                  refine norm_ (a' := ?_) ?_ ?_
                                  rotate_left
                                  · show Act.put _ (some 15) _ = _
                                    bq154_q3
                                    rfl
                                  exact norm_ bq35_q3 (hCont (.slice Ao186 t242.length co186, .slice Ao187 t245.length co187, v249, gb252) _ ⟨hHeld, bq63_q3, bq62_q3, bq61_q3, bq59_q3, bq58_q3, bq57_q3, bq56_q3, (by bq1_q3; exact BK197.out), (by bq1_q3; exact BK198.out), (by bq1_q3; exact BK211.out), (by bq1_q3; exact BK215.out), (by bq1_q3; exact BK219.out), (by bq1_q3; exact BK224.out), (by bq1_q3; exact BK252.out), GW252.out, GE252.out, NB197_252.out, NB252_197.out, NB198_252.out, NB252_198.out, NB211_252.out, NB252_211.out, NB215_252.out, NB252_215.out, NB219_252.out, NB252_219.out, NB224_252.out, NB252_224.out, (by repeat bq4_q3)⟩)
                                · skip
                                  bq199_q3; bq31_q3
                                  intro gb252 hg w186 hbox hb
                                  bq178_q3
                                  bq177_q3
                                  bq176_q3
                                  bq175_q3
                                  bq239_q3
                                  have n5_ := Aside0.mk (Kd.R_below (by bq2_q3; exact HO247.out) hb)
                                  have n6_ := Aside0.mk bq8_q3
                                  have n7_ := Aside0.mk bq9_q3
                                  have n8_ := Aside0.mk bq10_q3
                                  have n9_ := Aside0.mk bq16_q3
                                  have n10_ := Aside0.mk bq15_q3
                                  have n11_ := Aside0.mk bq11_q3
                                  bq208_q3
                                  have n13_ := Aside0.mk (hbox)
                                  have n14_ := Aside0.mk (bq48_q3)
                                  have n15_ := Aside0.mk (bq48_q3)
                                  have n16_ := Aside0.mk (bq141_q3)
                                  have n17_ := Aside0.mk (bq149_q3)
                                  have n18_ := Aside0.mk (bq139_q3)
                                  have n19_ := Aside0.mk (bq147_q3)
                                  have n20_ := Aside0.mk (bq138_q3)
                                  have n21_ := Aside0.mk (bq146_q3)
                                  have n22_ := Aside0.mk (bq135_q3)
                                  have n23_ := Aside0.mk (bq143_q3)
                                  have n24_ := Aside0.mk (bq136_q3)
                                  have n25_ := Aside0.mk (bq144_q3)
                                  have n26_ := Aside0.mk (bq137_q3)
                                  have n27_ := Aside0.mk (bq145_q3)
                                  clear HO_212000
                                  clear HO_216000
                                  clear HO_220000
                                  clear HO_225000
                                  clear HO244
                                  clear HO247
                                  clear BK197
                                  clear BK198
                                  clear BK211
                                  clear BK215
                                  clear BK219
                                  clear BK224
                                  clear HB
                                  have HO_212000 := n0_
                                  have HO_216000 := n1_
                                  have HO_220000 := n2_
                                  have HO_225000 := n3_
                                  have HO244 := n4_
                                  have HO247 := n5_
                                  have BK197 := n6_
                                  have BK198 := n7_
                                  have BK211 := n8_
                                  have BK215 := n9_
                                  have BK219 := n10_
                                  have BK224 := n11_
                                  have HB := n12_
                                  have BK252 := n13_
                                  have GW252 := n14_
                                  have GE252 := n15_
                                  have NB197_252 := n16_
                                  have NB252_197 := n17_
                                  have NB198_252 := n18_
                                  have NB252_198 := n19_
                                  have NB211_252 := n20_
                                  have NB252_211 := n21_
                                  have NB215_252 := n22_
                                  have NB252_215 := n23_
                                  have NB219_252 := n24_
                                  have NB252_219 := n25_
                                  have NB224_252 := n26_
                                  have NB252_224 := n27_
                                  clear n0_ n1_ n2_ n3_ n4_ n5_ n6_ n7_ n8_ n9_ n10_ n11_ n12_ n13_ n14_ n15_ n16_ n17_ n18_ n19_ n20_ n21_ n22_ n23_ n24_ n25_ n26_ n27_
                                  clear hb hbox hg
                                  obtain ⟨Ao187, co187, eo187⟩ := Kd.R_slice HO244.out
                                  bq52_q3
                                  obtain ⟨Ao188, co188, eo188⟩ := Kd.R_slice HO247.out
                                  bq71_q3
                                  bq155_q3
                                  clear hK K
                                  refine norm_ (a' := ?_) ?_ ?_
                                  rotate_left
                                  · show Act.put _ (some 15) _ = _
                                    bq154_q3
                                    rfl
                                  bq193_q3
                                  bq204_q3
                                  with_reducible refine (impl_SumOf.calls kj106 _ _ t242 _ _ t245 t248 t251 _ ?side1 ?side2 ?side3 ?side4 A172.out).mono ?_
                                  bq45_q3
                                  (case side2 => exact (Kd.R_reads' HO244.out).2.1)
                                  bq43_q3
                                  (case side4 => exact (Kd.R_reads' HO247.out).2.1)
                                  rintro e w189 ⟨v249, rfl, ho0, hb⟩
                                  refine ⟨_, rfl, ?_⟩
                                  have n0_ := Aside0.mk bq30_q3
                                  have n1_ := Aside0.mk bq29_q3
                                  have n2_ := Aside0.mk bq28_q3
                                  have n3_ := Aside0.mk bq27_q3
                                  have n4_ := Aside0.mk bq66_q3
                                  have n5_ := Aside0.mk bq122_q3
                                  bq234_q3
                                  have n7_ := Aside0.mk bq8_q3
                                  have n8_ := Aside0.mk bq9_q3
                                  have n9_ := Aside0.mk bq10_q3
                                  have n10_ := Aside0.mk bq16_q3
                                  have n11_ := Aside0.mk bq15_q3
                                  have n12_ := Aside0.mk bq11_q3
                                  have n13_ := Aside0.mk bq49_q3
                                  have n14_ := Aside0.mk (below_step (by repeat bq4_q3) hb)
                                  clear HO_212000
                                  clear HO_216000
                                  clear HO_220000
                                  clear HO_225000
                                  clear HO244
                                  clear HO247
                                  clear BK197
                                  clear BK198
                                  clear BK211
                                  clear BK215
                                  clear BK219
                                  clear BK224
                                  clear BK252
                                  clear HB
                                  have HO_212000 := n0_
                                  have HO_216000 := n1_
                                  have HO_220000 := n2_
                                  have HO_225000 := n3_
                                  have HO244 := n4_
                                  have HO247 := n5_
                                  have HO250 := n6_
                                  have BK197 := n7_
                                  have BK198 := n8_
                                  have BK211 := n9_
                                  have BK215 := n10_
                                  have BK219 := n11_
                                  have BK224 := n12_
                                  have BK252 := n13_
                                  have HB := n14_
                                  bq227_q3
                                  (try clear hb)
                                  (try clear hb2)
                                  (try clear hk)
                                  (try clear hi)
                                  (try clear ho0)
                                  bq155_q3
                                  clear hK K
                                  refine norm_ (a' := ?_) ?_ ?_
                                  rotate_left
                                  · show Act.put _ (some 99) _ = _
                                    bq154_q3
                                    rfl
                                  bq185_q3
                                  rotate_left
                                  · intro w'
                                    go_simp
                                    with_reducible rfl
                                  rotate_left
                                  · bq154_q3
                                    rfl
                                  bq184_q3
                                  rotate_left
                                  · intro w'
                                    go_simp
                                    with_reducible rfl
                                  rotate_left
                                  · bq154_q3
                                    rfl
                                  bq187_q3
                                  rotate_left
                                  · intro w'
                                    go_simp
                                    with_reducible rfl
                                  rotate_left
                                  · bq154_q3
                                    rfl
                                  bq159_q3
                              · skip
                                bq199_q3; bq31_q3
                                intro gb252 hg w185 hbox hb
                                bq178_q3
                                bq177_q3
                                bq176_q3
                                bq175_q3
                                bq239_q3
                                have n5_ := Aside0.mk bq8_q3
                                have n6_ := Aside0.mk bq9_q3
                                have n7_ := Aside0.mk bq10_q3
                                have n8_ := Aside0.mk bq16_q3
                                have n9_ := Aside0.mk bq15_q3
                                have n10_ := Aside0.mk bq11_q3
                                bq192_q3
                                have n12_ := Aside0.mk (hbox)
                                have n13_ := Aside0.mk (bq48_q3)
                                have n14_ := Aside0.mk (bq48_q3)
                                have n15_ := Aside0.mk (bq141_q3)
                                have n16_ := Aside0.mk (bq149_q3)
                                have n17_ := Aside0.mk (bq139_q3)
                                have n18_ := Aside0.mk (bq147_q3)
                                have n19_ := Aside0.mk (bq138_q3)
                                have n20_ := Aside0.mk (bq146_q3)
                                have n21_ := Aside0.mk (bq135_q3)
                                have n22_ := Aside0.mk (bq143_q3)
                                have n23_ := Aside0.mk (bq136_q3)
                                have n24_ := Aside0.mk (bq144_q3)
                                have n25_ := Aside0.mk (bq137_q3)
                                have n26_ := Aside0.mk (bq145_q3)
                                clear HO_212000
                                clear HO_216000
                                clear HO_220000
                                clear HO_225000
                                clear HO244
                                clear BK197
                                clear BK198
                                clear BK211
                                clear BK215
                                clear BK219
                                clear BK224
                                clear HB
                                have HO_212000 := n0_
                                have HO_216000 := n1_
                                have HO_220000 := n2_
                                have HO_225000 := n3_
                                have HO244 := n4_
                                have BK197 := n5_
                                have BK198 := n6_
                                have BK211 := n7_
                                have BK215 := n8_
                                have BK219 := n9_
                                have BK224 := n10_
                                have HB := n11_
                                have BK252 := n12_
                                have GW252 := n13_
                                have GE252 := n14_
                                have NB197_252 := n15_
                                have NB252_197 := n16_
                                have NB198_252 := n17_
                                have NB252_198 := n18_
                                have NB211_252 := n19_
                                have NB252_211 := n20_
                                have NB215_252 := n21_
                                have NB252_215 := n22_
                                have NB219_252 := n23_
                                have NB252_219 := n24_
                                have NB224_252 := n25_
                                have NB252_224 := n26_
                                clear n0_ n1_ n2_ n3_ n4_ n5_ n6_ n7_ n8_ n9_ n10_ n11_ n12_ n13_ n14_ n15_ n16_ n17_ n18_ n19_ n20_ n21_ n22_ n23_ n24_ n25_ n26_
                                clear hb hbox hg
                                bq155_q3
                                clear hK K
                                refine norm_ (a' := ?_) ?_ ?_
                                rotate_left
                                · show Act.put _ (some 15) _ = _
                                  bq154_q3
                                  rfl
                                bq221_q3
                                bq166_q3
                                with_reducible refine (laws_toPoset.calls kj106 _ _ l1_0 t245 _ ?side1 ?side2 A171.out).mono ?_
                                bq17_q3
                                (case side2 => exact HC1_0.out)
                                rintro e w186 ⟨v246, rfl, ho0, hb⟩
                                refine ⟨_, rfl, ?_⟩
                                have n0_ := Aside0.mk bq30_q3
                                have n1_ := Aside0.mk bq29_q3
                                have n2_ := Aside0.mk bq28_q3
                                have n3_ := Aside0.mk bq27_q3
                                have n4_ := Aside0.mk bq66_q3
                                bq237_q3
                                have n6_ := Aside0.mk bq8_q3
                                have n7_ := Aside0.mk bq9_q3
                                have n8_ := Aside0.mk bq10_q3
                                have n9_ := Aside0.mk bq16_q3
                                have n10_ := Aside0.mk bq15_q3
                                have n11_ := Aside0.mk bq11_q3
                                have n12_ := Aside0.mk bq49_q3
                                have n13_ := Aside0.mk (below_step (by repeat bq4_q3) hb)
                                clear HO_212000
                                clear HO_216000
                                clear HO_220000
                                clear HO_225000
                                clear HO244
                                clear BK197
                                clear BK198
                                clear BK211
                                clear BK215
                                clear BK219
                                clear BK224
                                clear BK252
                                clear HB
                                have HO_212000 := n0_
                                have HO_216000 := n1_
                                have HO_220000 := n2_
                                have HO_225000 := n3_
                                have HO244 := n4_
                                have HO247 := n5_
                                have BK197 := n6_
                                have BK198 := n7_
                                have BK211 := n8_
                                have BK215 := n9_
                                have BK219 := n10_
                                have BK224 := n11_
                                have BK252 := n12_
                                have HB := n13_
                                bq246_q3
                                (try clear hb)
                                (try clear hb2)
                                (try clear hk)
                                (try clear hi)
                                (try clear ho0)
                                obtain ⟨Ao187, co187, eo187⟩ := Kd.R_slice HO244.out
                                bq52_q3
                                obtain ⟨Ao188, co188, eo188⟩ := Kd.R_slice HO247.out
                                bq71_q3
                                bq155_q3
                                clear hK K
                                refine norm_ (a' := ?_) ?_ ?_
                                rotate_left
                                · show Act.put _ (some 98) _ = _
                                  bq154_q3
                                  rfl
                                bq193_q3
                                bq204_q3
                                with_reducible refine (impl_SumOf.calls kj106 _ _ t242 _ _ t245 t248 t251 _ ?side1 ?side2 ?side3 ?side4 A172.out).mono ?_
                                bq45_q3
                                (case side2 => exact (Kd.R_reads' HO244.out).2.1)
                                bq43_q3
                                (case side4 => exact (Kd.R_reads' HO247.out).2.1)
                                rintro e w189 ⟨v249, rfl, ho0, hb⟩
                                refine ⟨_, rfl, ?_⟩
                                have n0_ := Aside0.mk bq30_q3
                                have n1_ := Aside0.mk bq29_q3
                                have n2_ := Aside0.mk bq28_q3
                                have n3_ := Aside0.mk bq27_q3
                                have n4_ := Aside0.mk bq66_q3
                                have n5_ := Aside0.mk bq122_q3
                                bq234_q3
                                have n7_ := Aside0.mk bq8_q3
                                have n8_ := Aside0.mk bq9_q3
                                have n9_ := Aside0.mk bq10_q3
                                have n10_ := Aside0.mk bq16_q3
                                have n11_ := Aside0.mk bq15_q3
                                have n12_ := Aside0.mk bq11_q3
                                have n13_ := Aside0.mk bq49_q3
                                have n14_ := Aside0.mk (below_step (by repeat bq4_q3) hb)
                                clear HO_212000
                                clear HO_216000
                                clear HO_220000
                                clear HO_225000
                                clear HO244
                                clear HO247
                                clear BK197
                                clear BK198
                                clear BK211
                                clear BK215
                                clear BK219
                                clear BK224
                                clear BK252
                                clear HB
                                have HO_212000 := n0_
                                have HO_216000 := n1_
                                have HO_220000 := n2_
                                have HO_225000 := n3_
                                have HO244 := n4_
                                have HO247 := n5_
                                have HO250 := n6_
                                have BK197 := n7_
                                have BK198 := n8_
                                have BK211 := n9_
                                have BK215 := n10_
                                have BK219 := n11_
                                have BK224 := n12_
                                have BK252 := n13_
                                have HB := n14_
                                bq227_q3
                                (try clear hb)
                                (try clear hb2)
                                (try clear hk)
                                (try clear hi)
                                (try clear ho0)
                                bq155_q3
                                clear hK K
                                refine norm_ (a' := ?_) ?_ ?_
                                rotate_left
                                · show Act.put _ (some 99) _ = _
                                  bq154_q3
                                  rfl
                                bq185_q3
                                rotate_left
                                · intro w'
                                  go_simp
                                  with_reducible rfl
                                rotate_left
                                · bq154_q3
                                  rfl
                                bq184_q3
                                rotate_left
                                · intro w'
                                  go_simp
                                  with_reducible rfl
                                rotate_left
                                · bq154_q3
                                  rfl
                                bq187_q3
                                rotate_left
                                · intro w'
                                  go_simp
                                  with_reducible rfl
                                rotate_left
                                · bq154_q3
                                  rfl
                                bq159_q3
                            · skip
                              bq199_q3; bq31_q3
                              intro gb252 hg w184 hbox hb
                              bq178_q3
                              bq177_q3
                              bq176_q3
                              bq175_q3
                              have n4_ := Aside0.mk bq8_q3
                              have n5_ := Aside0.mk bq9_q3
                              have n6_ := Aside0.mk bq10_q3
                              have n7_ := Aside0.mk bq16_q3
                              have n8_ := Aside0.mk bq15_q3
                              have n9_ := Aside0.mk bq11_q3
                              have n10_ := Aside0.mk (below_step (by repeat bq3_q3) hb)
                              have n11_ := Aside0.mk (hbox)
                              have n12_ := Aside0.mk (bq48_q3)
                              have n13_ := Aside0.mk (bq48_q3)
                              have n14_ := Aside0.mk (bq141_q3)
                              have n15_ := Aside0.mk (bq149_q3)
                              have n16_ := Aside0.mk (bq139_q3)
                              have n17_ := Aside0.mk (bq147_q3)
                              have n18_ := Aside0.mk (bq138_q3)
                              have n19_ := Aside0.mk (bq146_q3)
                              have n20_ := Aside0.mk (bq135_q3)
                              have n21_ := Aside0.mk (bq143_q3)
                              have n22_ := Aside0.mk (bq136_q3)
                              have n23_ := Aside0.mk (bq144_q3)
                              have n24_ := Aside0.mk (bq137_q3)
                              have n25_ := Aside0.mk (bq145_q3)
                              clear HO_212000
                              clear HO_216000
                              clear HO_220000
                              clear HO_225000
                              clear BK197
                              clear BK198
                              clear BK211
                              clear BK215
                              clear BK219
                              clear BK224
                              clear HB
                              have HO_212000 := n0_
                              have HO_216000 := n1_
                              have HO_220000 := n2_
                              have HO_225000 := n3_
                              have BK197 := n4_
                              have BK198 := n5_
                              have BK211 := n6_
                              have BK215 := n7_
                              have BK219 := n8_
                              have BK224 := n9_
                              have HB := n10_
                              have BK252 := n11_
                              have GW252 := n12_
                              have GE252 := n13_
                              have NB197_252 := n14_
                              have NB252_197 := n15_
                              have NB198_252 := n16_
                              have NB252_198 := n17_
                              have NB211_252 := n18_
                              have NB252_211 := n19_
                              have NB215_252 := n20_
                              have NB252_215 := n21_
                              have NB219_252 := n22_
                              have NB252_219 := n23_
                              have NB224_252 := n24_
                              have NB252_224 := n25_
                              clear n0_ n1_ n2_ n3_ n4_ n5_ n6_ n7_ n8_ n9_ n10_ n11_ n12_ n13_ n14_ n15_ n16_ n17_ n18_ n19_ n20_ n21_ n22_ n23_ n24_ n25_
                              clear hb hbox hg
                              bq155_q3
                              clear hK K
                              refine norm_ (a' := ?_) ?_ ?_
                              rotate_left
                              · show Act.put _ (some 15) _ = _
                                bq154_q3
                                rfl
                              refine one_ (i := 1) (N := some 96) #[true, true, true, false, false, false, false, false, true, false, false] rfl rfl (one_of HT_.out (by kernel_rfl)) (by decide) (fun K hK => ?_)
                              bq169_q3
                              with_reducible refine (laws_toPoset.calls kj106 _ _ l0_0 t242 _ ?side1 ?side2 A170.out).mono ?_
                              bq18_q3
                              (case side2 => exact HC0_0.out)
                              rintro e w185 ⟨v243, rfl, ho0, hb⟩
                              refine ⟨_, rfl, ?_⟩
                              have n0_ := Aside0.mk bq30_q3
                              have n1_ := Aside0.mk bq29_q3
                              have n2_ := Aside0.mk bq28_q3
                              have n3_ := Aside0.mk bq27_q3
                              have n4_ := Aside0.mk (Kd.R_lower bq12_q3 (below_size (by repeat bq4_q3)))
                              have n5_ := Aside0.mk bq8_q3
                              have n6_ := Aside0.mk bq9_q3
                              have n7_ := Aside0.mk bq10_q3
                              have n8_ := Aside0.mk bq16_q3
                              have n9_ := Aside0.mk bq15_q3
                              have n10_ := Aside0.mk bq11_q3
                              have n11_ := Aside0.mk bq49_q3
                              have n12_ := Aside0.mk (below_step (by repeat bq4_q3) hb)
                              clear HO_212000
                              clear HO_216000
                              clear HO_220000
                              clear HO_225000
                              clear BK197
                              clear BK198
                              clear BK211
                              clear BK215
                              clear BK219
                              clear BK224
                              clear BK252
                              clear HB
                              have HO_212000 := n0_
                              have HO_216000 := n1_
                              have HO_220000 := n2_
                              have HO_225000 := n3_
                              have HO244 := n4_
                              have BK197 := n5_
                              have BK198 := n6_
                              have BK211 := n7_
                              have BK215 := n8_
                              have BK219 := n9_
                              have BK224 := n10_
                              have BK252 := n11_
                              have HB := n12_
                              bq189_q3
                              (try clear hb)
                              (try clear hb2)
                              (try clear hk)
                              (try clear hi)
                              (try clear ho0)
                              bq155_q3
                              clear hK K
                              refine norm_ (a' := ?_) ?_ ?_
                              rotate_left
                              · show Act.put _ (some 96) _ = _
                                bq154_q3
                                rfl
                              bq221_q3
                              bq166_q3
                              with_reducible refine (laws_toPoset.calls kj106 _ _ l1_0 t245 _ ?side1 ?side2 A171.out).mono ?_
                              bq17_q3
                              (case side2 => exact HC1_0.out)
                              rintro e w186 ⟨v246, rfl, ho0, hb⟩
                              refine ⟨_, rfl, ?_⟩
                              have n0_ := Aside0.mk bq30_q3
                              have n1_ := Aside0.mk bq29_q3
                              have n2_ := Aside0.mk bq28_q3
                              have n3_ := Aside0.mk bq27_q3
                              have n4_ := Aside0.mk bq66_q3
                              bq237_q3
                              have n6_ := Aside0.mk bq8_q3
                              have n7_ := Aside0.mk bq9_q3
                              have n8_ := Aside0.mk bq10_q3
                              have n9_ := Aside0.mk bq16_q3
                              have n10_ := Aside0.mk bq15_q3
                              have n11_ := Aside0.mk bq11_q3
                              have n12_ := Aside0.mk bq49_q3
                              have n13_ := Aside0.mk (below_step (by repeat bq4_q3) hb)
                              clear HO_212000
                              clear HO_216000
                              clear HO_220000
                              clear HO_225000
                              clear HO244
                              clear BK197
                              clear BK198
                              clear BK211
                              clear BK215
                              clear BK219
                              clear BK224
                              clear BK252
                              clear HB
                              have HO_212000 := n0_
                              have HO_216000 := n1_
                              have HO_220000 := n2_
                              have HO_225000 := n3_
                              have HO244 := n4_
                              have HO247 := n5_
                              have BK197 := n6_
                              have BK198 := n7_
                              have BK211 := n8_
                              have BK215 := n9_
                              have BK219 := n10_
                              have BK224 := n11_
                              have BK252 := n12_
                              have HB := n13_
                              bq246_q3
                              (try clear hb)
                              (try clear hb2)
                              (try clear hk)
                              (try clear hi)
                              (try clear ho0)
                              obtain ⟨Ao187, co187, eo187⟩ := Kd.R_slice HO244.out
                              bq52_q3
                              obtain ⟨Ao188, co188, eo188⟩ := Kd.R_slice HO247.out
                              bq71_q3
                              bq155_q3
                              clear hK K
                              refine norm_ (a' := ?_) ?_ ?_
                              rotate_left
                              · show Act.put _ (some 98) _ = _
                                bq154_q3
                                rfl
                              bq193_q3
                              bq204_q3
                              with_reducible refine (impl_SumOf.calls kj106 _ _ t242 _ _ t245 t248 t251 _ ?side1 ?side2 ?side3 ?side4 A172.out).mono ?_
                              bq45_q3
                              (case side2 => exact (Kd.R_reads' HO244.out).2.1)
                              bq43_q3
                              (case side4 => exact (Kd.R_reads' HO247.out).2.1)
                              rintro e w189 ⟨v249, rfl, ho0, hb⟩
                              refine ⟨_, rfl, ?_⟩
                              have n0_ := Aside0.mk bq30_q3
                              have n1_ := Aside0.mk bq29_q3
                              have n2_ := Aside0.mk bq28_q3
                              have n3_ := Aside0.mk bq27_q3
                              have n4_ := Aside0.mk bq66_q3
                              have n5_ := Aside0.mk bq122_q3
                              bq234_q3
                              have n7_ := Aside0.mk bq8_q3
                              have n8_ := Aside0.mk bq9_q3
                              have n9_ := Aside0.mk bq10_q3
                              have n10_ := Aside0.mk bq16_q3
                              have n11_ := Aside0.mk bq15_q3
                              have n12_ := Aside0.mk bq11_q3
                              have n13_ := Aside0.mk bq49_q3
                              have n14_ := Aside0.mk (below_step (by repeat bq4_q3) hb)
                              clear HO_212000
                              clear HO_216000
                              clear HO_220000
                              clear HO_225000
                              clear HO244
                              clear HO247
                              clear BK197
                              clear BK198
                              clear BK211
                              clear BK215
                              clear BK219
                              clear BK224
                              clear BK252
                              clear HB
                              have HO_212000 := n0_
                              have HO_216000 := n1_
                              have HO_220000 := n2_
                              have HO_225000 := n3_
                              have HO244 := n4_
                              have HO247 := n5_
                              have HO250 := n6_
                              have BK197 := n7_
                              have BK198 := n8_
                              have BK211 := n9_
                              have BK215 := n10_
                              have BK219 := n11_
                              have BK224 := n12_
                              have BK252 := n13_
                              have HB := n14_
                              bq227_q3
                              (try clear hb)
                              (try clear hb2)
                              (try clear hk)
                              (try clear hi)
                              (try clear ho0)
                              bq155_q3
                              clear hK K
                              refine norm_ (a' := ?_) ?_ ?_
                              rotate_left
                              · show Act.put _ (some 99) _ = _
                                bq154_q3
                                rfl
                              bq185_q3
                              rotate_left
                              · intro w'
                                go_simp
                                with_reducible rfl
                              rotate_left
                              · bq154_q3
                                rfl
                              bq184_q3
                              rotate_left
                              · intro w'
                                go_simp
                                with_reducible rfl
                              rotate_left
                              · bq154_q3
                                rfl
                              bq187_q3
                              rotate_left
                              · intro w'
                                go_simp
                                with_reducible rfl
                              rotate_left
                              · bq154_q3
                                rfl
                              bq159_q3
                          rintro ⟨v243, v246, v249, gb252⟩ w190 ⟨hS_, h0_, h1_, h2_, h3_, h4_, h5_, h6_, h7_, h8_, h9_, h10_, h11_, h12_, h13_, h14_, h15_, h16_, h17_, h18_, h19_, h20_, h21_, h22_, h23_, h24_, h25_, h26_, h27_, h28_⟩
                          have n0_ : Aside0 (Kd.R (Kd.int .i64) 3 w190 w.heap.size (fun k_ => some k_ ≠ (v246 : Value).ownBlock ∧ some k_ ≠ (v249 : Value).ownBlock ∧ some k_ ≠ (.slice Ao41 t207.length co41 : Value).ownBlock ∧ some k_ ≠ (.slice Ao47 t235.length co47 : Value).ownBlock ∧ some k_ ≠ (.slice Ao56 t237.length co56 : Value).ownBlock ∧ some k_ ≠ (.slice Ao65 t220.length co65 : Value).ownBlock) v243 t242) := ⟨h0_⟩
                          have n1_ : Aside0 (Kd.R (Kd.int .i64) 3 w190 w.heap.size (fun k_ => some k_ ≠ (v243 : Value).ownBlock ∧ some k_ ≠ (v249 : Value).ownBlock ∧ some k_ ≠ (.slice Ao41 t207.length co41 : Value).ownBlock ∧ some k_ ≠ (.slice Ao47 t235.length co47 : Value).ownBlock ∧ some k_ ≠ (.slice Ao56 t237.length co56 : Value).ownBlock ∧ some k_ ≠ (.slice Ao65 t220.length co65 : Value).ownBlock) v246 t245) := ⟨h1_⟩
                          have n2_ : Aside0 (Kd.R (Kd.int .i64) 3 w190 w.heap.size (fun k_ => some k_ ≠ (v243 : Value).ownBlock ∧ some k_ ≠ (v246 : Value).ownBlock ∧ some k_ ≠ (.slice Ao41 t207.length co41 : Value).ownBlock ∧ some k_ ≠ (.slice Ao47 t235.length co47 : Value).ownBlock ∧ some k_ ≠ (.slice Ao56 t237.length co56 : Value).ownBlock ∧ some k_ ≠ (.slice Ao65 t220.length co65 : Value).ownBlock) v249 t248) := ⟨h2_⟩
                          have n3_ : Aside0 (Kd.R (Kd.int .i64) 3 w190 w.heap.size (fun k_ => some k_ ≠ (v243 : Value).ownBlock ∧ some k_ ≠ (v246 : Value).ownBlock ∧ some k_ ≠ (v249 : Value).ownBlock ∧ some k_ ≠ (.slice Ao47 t235.length co47 : Value).ownBlock ∧ some k_ ≠ (.slice Ao56 t237.length co56 : Value).ownBlock ∧ some k_ ≠ (.slice Ao65 t220.length co65 : Value).ownBlock) (.slice Ao41 t207.length co41) t207) := ⟨h3_⟩
                          have n4_ : Aside0 (Kd.R (Kd.int .i64) 3 w190 w.heap.size (fun k_ => some k_ ≠ (v243 : Value).ownBlock ∧ some k_ ≠ (v246 : Value).ownBlock ∧ some k_ ≠ (v249 : Value).ownBlock ∧ some k_ ≠ (.slice Ao41 t207.length co41 : Value).ownBlock ∧ some k_ ≠ (.slice Ao56 t237.length co56 : Value).ownBlock ∧ some k_ ≠ (.slice Ao65 t220.length co65 : Value).ownBlock) (.slice Ao47 t235.length co47) t235) := ⟨h4_⟩
                          have n5_ : Aside0 (Kd.R (Kd.int .i64) 3 w190 w.heap.size (fun k_ => some k_ ≠ (v243 : Value).ownBlock ∧ some k_ ≠ (v246 : Value).ownBlock ∧ some k_ ≠ (v249 : Value).ownBlock ∧ some k_ ≠ (.slice Ao41 t207.length co41 : Value).ownBlock ∧ some k_ ≠ (.slice Ao47 t235.length co47 : Value).ownBlock ∧ some k_ ≠ (.slice Ao65 t220.length co65 : Value).ownBlock) (.slice Ao56 t237.length co56) t237) := ⟨h5_⟩
                          have n6_ : Aside0 (Kd.R (Kd.int .i64) 3 w190 w.heap.size (fun k_ => some k_ ≠ (v243 : Value).ownBlock ∧ some k_ ≠ (v246 : Value).ownBlock ∧ some k_ ≠ (v249 : Value).ownBlock ∧ some k_ ≠ (.slice Ao41 t207.length co41 : Value).ownBlock ∧ some k_ ≠ (.slice Ao47 t235.length co47 : Value).ownBlock ∧ some k_ ≠ (.slice Ao56 t237.length co56 : Value).ownBlock) (.slice Ao65 t220.length co65) t240) := ⟨h6_⟩
                          have n7_ : Aside0 (w190.heap[gb197]? = some (.cells #[.slice A0_0 l0_0.length c0_0] 24 (0, 0))) := ⟨h7_⟩
                          have n8_ : Aside0 (w190.heap[gb198]? = some (.cells #[.slice A1_0 l1_0.length c1_0] 24 (0, 0))) := ⟨h8_⟩
                          have n9_ : Aside0 (w190.heap[gb211]? = some (.cells #[.slice Ao41 t207.length co41] 26 (0, 0))) := ⟨h9_⟩
                          have n10_ : Aside0 (w190.heap[gb215]? = some (.cells #[.slice Ao47 t235.length co47] 26 (0, 0))) := ⟨h10_⟩
                          have n11_ : Aside0 (w190.heap[gb219]? = some (.cells #[.slice Ao56 t237.length co56] 26 (0, 0))) := ⟨h11_⟩
                          have n12_ : Aside0 (w190.heap[gb224]? = some (.cells #[.slice Ao65 t220.length co65] 26 (0, 0))) := ⟨h12_⟩
                          have n13_ : Aside0 (w190.heap[gb252]? = some (.cells #[.slice none 0 0] 26 (0, 0))) := ⟨h13_⟩
                          have n14_ : Aside0 (w.heap.size ≤ gb252) := ⟨h14_⟩
                          have n15_ : Aside0 (w.heap.size ≤ gb252) := ⟨h15_⟩
                          have n16_ : Aside0 (gb197 ≠ gb252) := ⟨h16_⟩
                          have n17_ : Aside0 (gb252 ≠ gb197) := ⟨h17_⟩
                          have n18_ : Aside0 (gb198 ≠ gb252) := ⟨h18_⟩
                          have n19_ : Aside0 (gb252 ≠ gb198) := ⟨h19_⟩
                          have n20_ : Aside0 (gb211 ≠ gb252) := ⟨h20_⟩
                          have n21_ : Aside0 (gb252 ≠ gb211) := ⟨h21_⟩
                          have n22_ : Aside0 (gb215 ≠ gb252) := ⟨h22_⟩
                          have n23_ : Aside0 (gb252 ≠ gb215) := ⟨h23_⟩
                          have n24_ : Aside0 (gb219 ≠ gb252) := ⟨h24_⟩
                          have n25_ : Aside0 (gb252 ≠ gb219) := ⟨h25_⟩
                          have n26_ : Aside0 (gb224 ≠ gb252) := ⟨h26_⟩
                          have n27_ : Aside0 (gb252 ≠ gb224) := ⟨h27_⟩
                          have n28_ : Aside0 (Below w.heap.size w w190) := ⟨h28_⟩
                          clear HO_212000
                          clear HO_216000
                          clear HO_220000
                          clear HO_225000
                          clear BK197
                          clear BK198
                          clear BK211
                          clear BK215
                          clear BK219
                          clear BK224
                          clear HB
                          clear h0_ h1_ h2_ h3_ h4_ h5_ h6_ h7_ h8_ h9_ h10_ h11_ h12_ h13_ h14_ h15_ h16_ h17_ h18_ h19_ h20_ h21_ h22_ h23_ h24_ h25_ h26_ h27_ h28_
                          have HO244 := n0_
                          have HO247 := n1_
                          have HO250 := n2_
                          have HO_212000 := n3_
                          have HO_216000 := n4_
                          have HO_220000 := n5_
                          have HO_225000 := n6_
                          have BK197 := n7_
                          have BK198 := n8_
                          have BK211 := n9_
                          have BK215 := n10_
                          have BK219 := n11_
                          have BK224 := n12_
                          have BK252 := n13_
                          have GW252 := n14_
                          have GE252 := n15_
                          have NB197_252 := n16_
                          have NB252_197 := n17_
                          have NB198_252 := n18_
                          have NB252_198 := n19_
                          have NB211_252 := n20_
                          have NB252_211 := n21_
                          have NB215_252 := n22_
                          have NB252_215 := n23_
                          have NB219_252 := n24_
                          have NB252_219 := n25_
                          have NB224_252 := n26_
                          have NB252_224 := n27_
                          have HB := n28_
                          bq245_q3
                          have hHeld : w190.cell? ⟨gb197, 0, none⟩ = some (.slice A0_0 l0_0.length c0_0) ∧ w190.cell? ⟨gb198, 0, none⟩ = some (.slice A1_0 l1_0.length c1_0) := hS_
                          obtain ⟨Ao191, co191, eo191⟩ := Kd.R_slice HO250.out
                          (first | subst eo191 | (injection eo191 with f1_ f2_ f3_; bq183_q3; subst f4_; subst f5_))
                          refine norm_ (a' := ?_) ?_ ?_
                          rotate_left
                          · simp only [putAll, Act.put, List.setIfInBounds_toArray, List.set_cons_zero, List.set_cons_succ]
                            rfl
                          bq224_q3
                          have hs192 : w190.cell? ⟨gb252, 0, none⟩ = some (.slice none 0 0) := (blk_cell BK252.out 0).trans rfl
                          have hfs192 := blk_frozen BK252.out 0
                          have hns192_0 := NB197_252.out
                          have hns192_1 := NB198_252.out
                          have hns192_2 := NB211_252.out
                          have hns192_3 := NB215_252.out
                          have hns192_4 := NB219_252.out
                          have hns192_5 := NB224_252.out
                          have hms192_0 := NB252_197.out
                          have hms192_1 := NB252_198.out
                          have hms192_2 := NB252_211.out
                          have hms192_3 := NB252_215.out
                          have hms192_4 := NB252_219.out
                          have hms192_5 := NB252_224.out
                          refine skip_ (w1 := ?_) (by rfl) rfl ?_ ?_
                          rotate_left
                          · go_simp
                            rfl
                          refine hK.out _ _ ⟨((cell_far (p := ⟨gb252, _, none⟩) NB197_252.out _).trans (hHeld.1)), ((cell_far (p := ⟨gb252, _, none⟩) NB198_252.out _).trans (hHeld.2))⟩ (fun hHeld => ?_)
                          clear hK K
                          refine pure_ (i := 10) (N := some 16) (v := ?_) (a' := ?_) #[true, true, true, true, true, true, true, true, true, true, true] rfl rfl (any_of HT_.out (by kernel_rfl)) (fun _ _ _ h => h) (Or.inl ⟨by rfl, ?_⟩) ?_ ?_
                          rotate_left
                          · intro w'
                            go_simp
                            with_reducible rfl
                          rotate_left
                          · bq154_q3
                            rfl
                          refine done_ (done_of HT_.out (by kernel_rfl)) ?_
                          go_upto_region 32 with (fail)
                          go_cut [110] (fun v110 wc => ∃ (kq : Nat) (x110_172 : Bool), v110 = .bool x110_172 ∧ Aside0 (laws_FnExactSumOf.j2 kq t239 x110_172 t240 = some r) ∧ Aside0 (kq ≤ kj106) ∧ Aside0 (Kd.R (Kd.int .i64) 3 wc w.heap.size (fun k_ => some k_ ≠ ((.slice Ao47 t235.length co47) : Value).ownBlock ∧ some k_ ≠ ((.slice Ao56 t237.length co56) : Value).ownBlock ∧ some k_ ≠ ((.slice Ao65 t220.length co65) : Value).ownBlock ∧ some k_ ≠ ((.slice Ao191 t248.length co191) : Value).ownBlock) (.slice Ao41 t207.length co41) t207) ∧ Aside0 (Kd.R (Kd.int .i64) 3 wc w.heap.size (fun k_ => some k_ ≠ ((.slice Ao41 t207.length co41) : Value).ownBlock ∧ some k_ ≠ ((.slice Ao56 t237.length co56) : Value).ownBlock ∧ some k_ ≠ ((.slice Ao65 t220.length co65) : Value).ownBlock ∧ some k_ ≠ ((.slice Ao191 t248.length co191) : Value).ownBlock) (.slice Ao47 t235.length co47) t235) ∧ Aside0 (Kd.R (Kd.int .i64) 3 wc w.heap.size (fun k_ => some k_ ≠ ((.slice Ao41 t207.length co41) : Value).ownBlock ∧ some k_ ≠ ((.slice Ao47 t235.length co47) : Value).ownBlock ∧ some k_ ≠ ((.slice Ao65 t220.length co65) : Value).ownBlock ∧ some k_ ≠ ((.slice Ao191 t248.length co191) : Value).ownBlock) (.slice Ao56 t237.length co56) t237) ∧ Aside0 (Kd.R (Kd.int .i64) 3 wc w.heap.size (fun k_ => some k_ ≠ ((.slice Ao41 t207.length co41) : Value).ownBlock ∧ some k_ ≠ ((.slice Ao47 t235.length co47) : Value).ownBlock ∧ some k_ ≠ ((.slice Ao56 t237.length co56) : Value).ownBlock ∧ some k_ ≠ ((.slice Ao191 t248.length co191) : Value).ownBlock) (.slice Ao65 t220.length co65) t240) ∧ Aside0 (Kd.R (Kd.int .i64) 3 wc w.heap.size (fun k_ => some k_ ≠ ((.slice Ao41 t207.length co41) : Value).ownBlock ∧ some k_ ≠ ((.slice Ao47 t235.length co47) : Value).ownBlock ∧ some k_ ≠ ((.slice Ao56 t237.length co56) : Value).ownBlock ∧ some k_ ≠ ((.slice Ao65 t220.length co65) : Value).ownBlock) (.slice Ao191 t248.length co191) t248) ∧ Aside0 (wc.heap[gb197]? = some (.cells #[(.slice A0_0 l0_0.length c0_0)] 24 (0, 0))) ∧ Aside0 (wc.heap[gb198]? = some (.cells #[(.slice A1_0 l1_0.length c1_0)] 24 (0, 0))) ∧ Aside0 (wc.heap[gb211]? = some (.cells #[(.slice Ao41 t207.length co41)] 26 (0, 0))) ∧ Aside0 (wc.heap[gb215]? = some (.cells #[(.slice Ao47 t235.length co47)] 26 (0, 0))) ∧ Aside0 (wc.heap[gb219]? = some (.cells #[(.slice Ao56 t237.length co56)] 26 (0, 0))) ∧ Aside0 (wc.heap[gb224]? = some (.cells #[(.slice Ao65 t220.length co65)] 26 (0, 0))) ∧ Aside0 (wc.heap[gb252]? = some (.cells #[(.slice Ao191 t248.length co191)] 26 (0, 0))) ∧ Aside0 (Below w.heap.size w wc))
                          case first =>
                            have H := HC173.out
                            clear HC173
                            replace H := Option.bind_eq_some_iff.mp H
                            obtain ⟨t253, A1930, H⟩ := H
                            replace H : (if t253 = true then (laws_FnExactSumOf.j2 kj106 t239 (t251 != t210) t240) else (laws_FnExactSumOf.j2 kj106 t239 true t240)) = some r := H
                            have A193 := Aside0.mk A1930
                            clear A1930
                            by_cases c194 : t253 = true
                            · subst c194
                              have H1 : (laws_FnExactSumOf.j2 kj106 t239 (t251 != t210) t240) = some r := by rw [if_pos rfl] at H; exact H
                              clear H
                              have H := H1
                              clear H1
                              have H' := Aside0.mk H
                              clear H
                              have hnb195 := NB252_197.out
                              have hnc195 := NB197_252.out
                              have hnb196 := NB252_198.out
                              have hnc196 := NB198_252.out
                              have hnb197 := NB252_211.out
                              have hnc197 := NB211_252.out
                              have hnb198 := NB252_215.out
                              have hnc198 := NB215_252.out
                              have hnb199 := NB252_219.out
                              have hnc199 := NB219_252.out
                              have hnb200 := NB252_224.out
                              have hnc200 := NB224_252.out
                              have hcz201_0 : w190.cell? ⟨gb252, 0, none⟩ = some (.slice none 0 0) := (blk_cell BK252.out 0).trans rfl
                              have hfz201_0 := blk_frozen BK252.out 0
                              have hnb202 := NB211_197.out
                              have hnc202 := NB197_211.out
                              have hnb203 := NB211_198.out
                              have hnc203 := NB198_211.out
                              have hnb204 := NB211_215.out
                              have hnc204 := NB215_211.out
                              have hnb205 := NB211_219.out
                              have hnc205 := NB219_211.out
                              have hnb206 := NB211_224.out
                              have hnc206 := NB224_211.out
                              have hcz207_0 : w190.cell? ⟨gb211, 0, none⟩ = some (.slice Ao41 t207.length co41) := (blk_cell BK211.out 0).trans rfl
                              have hfz207_0 := blk_frozen BK211.out 0
                              go_wp2_with (first | (bq152_q3; bq230_q3; (with_reducible refine (laws_eqPoset.calls kj106 _ _ t248 _ _ t207 true _ ?side1 ?side2 ?side3 ?side4 A193.out).mono ?_); bq40_q3; (case side2 => exact (Kd.R_reads' HO250.out).2.1); bq36_q3; bq151_q3; rintro e w208 ⟨rfl, hb⟩; refine ⟨_, rfl, ?_⟩; bq179_q3; bq220_q3; clear HO244; clear HO247; clear HO250; bq163_q3; clear BK224; clear BK252; bq172_q3; bq218_q3; bq227_q3; (try clear hb); bq206_q3))
                              go_meet
                              case rel => exact ⟨_, ((t251 != t210)), (by first | rfl | (simp; done) | (simp [*]; done)), H', ⟨by have := HJ24.out; have := HJ106.out; first | omega | exact Nat.le_refl _⟩, ⟨by (try simp only [hl216000_106]); (try simp only [hl220000_106]); bq2_q3; exact Kd.R_mono HO_212000.out (fun _ hk => ⟨hk.2.2.2.1, ⟨hk.2.2.2.2.1, ⟨hk.2.2.2.2.2, hk.2.2.1⟩⟩⟩)⟩, ⟨by (try simp only [hl216000_106]); (try simp only [hl220000_106]); bq2_q3; exact Kd.R_mono HO_216000.out (fun _ hk => ⟨hk.2.2.2.1, ⟨hk.2.2.2.2.1, ⟨hk.2.2.2.2.2, hk.2.2.1⟩⟩⟩)⟩, ⟨by (try simp only [hl216000_106]); (try simp only [hl220000_106]); bq2_q3; exact Kd.R_mono HO_220000.out (fun _ hk => ⟨hk.2.2.2.1, ⟨hk.2.2.2.2.1, ⟨hk.2.2.2.2.2, hk.2.2.1⟩⟩⟩)⟩, ⟨by (try simp only [hl216000_106]); (try simp only [hl220000_106]); bq2_q3; exact Kd.R_mono HO_225000.out (fun _ hk => ⟨hk.2.2.2.1, ⟨hk.2.2.2.2.1, ⟨hk.2.2.2.2.2, hk.2.2.1⟩⟩⟩)⟩, ⟨by (try simp only [hl216000_106]); (try simp only [hl220000_106]); bq2_q3; exact Kd.R_mono HO250.out (fun _ hk => ⟨hk.2.2.1, ⟨hk.2.2.2.1, ⟨hk.2.2.2.2.1, hk.2.2.2.2.2⟩⟩⟩)⟩, ⟨by (try simp only [hl216000_106]); (try simp only [hl220000_106]); bq1_q3; exact BK197.out⟩, ⟨by (try simp only [hl216000_106]); (try simp only [hl220000_106]); bq1_q3; exact BK198.out⟩, ⟨by (try simp only [hl216000_106]); (try simp only [hl220000_106]); bq1_q3; exact BK211.out⟩, ⟨by (try simp only [hl216000_106]); (try simp only [hl220000_106]); bq1_q3; exact BK215.out⟩, ⟨by (try simp only [hl216000_106]); (try simp only [hl220000_106]); bq1_q3; exact BK219.out⟩, ⟨by (try simp only [hl216000_106]); (try simp only [hl220000_106]); bq1_q3; exact BK224.out⟩, ⟨by (try simp only [hl216000_106]); (try simp only [hl220000_106]); bq1_q3; exact BK252.out⟩, ⟨by repeat bq4_q3⟩⟩
                            · replace c194 := Bool.eq_false_iff.mpr c194
                              subst c194
                              have H1 : (laws_FnExactSumOf.j2 kj106 t239 true t240) = some r := by rw [if_neg (show ¬ (false = true) by decide)] at H; exact H
                              clear H
                              have H := H1
                              clear H1
                              have H' := Aside0.mk H
                              clear H
                              have hnb209 := NB252_197.out
                              have hnc209 := NB197_252.out
                              have hnb210 := NB252_198.out
                              have hnc210 := NB198_252.out
                              have hnb211 := NB252_211.out
                              have hnc211 := NB211_252.out
                              have hnb212 := NB252_215.out
                              have hnc212 := NB215_252.out
                              have hnb213 := NB252_219.out
                              have hnc213 := NB219_252.out
                              have hnb214 := NB252_224.out
                              have hnc214 := NB224_252.out
                              have hcz215_0 : w190.cell? ⟨gb252, 0, none⟩ = some (.slice none 0 0) := (blk_cell BK252.out 0).trans rfl
                              have hfz215_0 := blk_frozen BK252.out 0
                              have hnb216 := NB211_197.out
                              have hnc216 := NB197_211.out
                              have hnb217 := NB211_198.out
                              have hnc217 := NB198_211.out
                              have hnb218 := NB211_215.out
                              have hnc218 := NB215_211.out
                              have hnb219 := NB211_219.out
                              have hnc219 := NB219_211.out
                              have hnb220 := NB211_224.out
                              have hnc220 := NB224_211.out
                              have hcz221_0 : w190.cell? ⟨gb211, 0, none⟩ = some (.slice Ao41 t207.length co41) := (blk_cell BK211.out 0).trans rfl
                              have hfz221_0 := blk_frozen BK211.out 0
                              go_wp2_with (first | (bq152_q3; bq230_q3; (with_reducible refine (laws_eqPoset.calls kj106 _ _ t248 _ _ t207 false _ ?side1 ?side2 ?side3 ?side4 A193.out).mono ?_); bq40_q3; (case side2 => exact (Kd.R_reads' HO250.out).2.1); bq36_q3; bq151_q3; rintro e w222 ⟨rfl, hb⟩; refine ⟨_, rfl, ?_⟩; bq179_q3; bq220_q3; clear HO244; clear HO247; clear HO250; bq163_q3; clear BK224; clear BK252; bq172_q3; bq218_q3; bq227_q3; (try clear hb); bq206_q3))
                              go_meet
                              case rel => exact ⟨_, (true), (by first | rfl | (simp; done) | (simp [*]; done)), H', ⟨by have := HJ24.out; have := HJ106.out; first | omega | exact Nat.le_refl _⟩, ⟨by (try simp only [hl216000_106]); (try simp only [hl220000_106]); bq2_q3; exact Kd.R_mono HO_212000.out (fun _ hk => ⟨hk.2.2.2.1, ⟨hk.2.2.2.2.1, ⟨hk.2.2.2.2.2, hk.2.2.1⟩⟩⟩)⟩, ⟨by (try simp only [hl216000_106]); (try simp only [hl220000_106]); bq2_q3; exact Kd.R_mono HO_216000.out (fun _ hk => ⟨hk.2.2.2.1, ⟨hk.2.2.2.2.1, ⟨hk.2.2.2.2.2, hk.2.2.1⟩⟩⟩)⟩, ⟨by (try simp only [hl216000_106]); (try simp only [hl220000_106]); bq2_q3; exact Kd.R_mono HO_220000.out (fun _ hk => ⟨hk.2.2.2.1, ⟨hk.2.2.2.2.1, ⟨hk.2.2.2.2.2, hk.2.2.1⟩⟩⟩)⟩, ⟨by (try simp only [hl216000_106]); (try simp only [hl220000_106]); bq2_q3; exact Kd.R_mono HO_225000.out (fun _ hk => ⟨hk.2.2.2.1, ⟨hk.2.2.2.2.1, ⟨hk.2.2.2.2.2, hk.2.2.1⟩⟩⟩)⟩, ⟨by (try simp only [hl216000_106]); (try simp only [hl220000_106]); bq2_q3; exact Kd.R_mono HO250.out (fun _ hk => ⟨hk.2.2.1, ⟨hk.2.2.2.1, ⟨hk.2.2.2.2.1, hk.2.2.2.2.2⟩⟩⟩)⟩, ⟨by (try simp only [hl216000_106]); (try simp only [hl220000_106]); bq1_q3; exact BK197.out⟩, ⟨by (try simp only [hl216000_106]); (try simp only [hl220000_106]); bq1_q3; exact BK198.out⟩, ⟨by (try simp only [hl216000_106]); (try simp only [hl220000_106]); bq1_q3; exact BK211.out⟩, ⟨by (try simp only [hl216000_106]); (try simp only [hl220000_106]); bq1_q3; exact BK215.out⟩, ⟨by (try simp only [hl216000_106]); (try simp only [hl220000_106]); bq1_q3; exact BK219.out⟩, ⟨by (try simp only [hl216000_106]); (try simp only [hl220000_106]); bq1_q3; exact BK224.out⟩, ⟨by (try simp only [hl216000_106]); (try simp only [hl220000_106]); bq1_q3; exact BK252.out⟩, ⟨by repeat bq4_q3⟩⟩
                          case rest =>
                            clear HC173
                            try clear c1
                            try clear c2
                            try clear p2
                            try clear c11
                            try clear c12
                            try clear c13
                            try clear c19
                            try clear c20
                            try clear c21
                            try clear c22
                            try clear c194
                            try clear c195
                            try clear c196
                            try clear c197
                            try clear c198
                            try clear c199
                            try clear c200
                            try clear c202
                            try clear c203
                            try clear c204
                            try clear c205
                            try clear c206
                            try clear c209
                            try clear c210
                            try clear c211
                            try clear c212
                            try clear c213
                            try clear c214
                            try clear c216
                            try clear c217
                            try clear c218
                            try clear c219
                            try clear c220
                            try clear hcz201_0
                            try clear hcz207_0
                            try clear hcz215_0
                            try clear hcz221_0
                            try clear hfz201_0
                            try clear hfz207_0
                            try clear hfz215_0
                            try clear hfz221_0
                            obtain ⟨kq, x110_172, rfl, HA, HJ172, HO_212000, HO_216000, HO_220000, HO_225000, HO_253000, BK197, BK198, BK211, BK215, BK219, BK224, BK252, HB⟩ := hcut
                            have hl225000_172 := (Kd.R_reads' HO_225000.out).1
                            rw [hl225000_172] at HO_225000
                            (try simp only [hl225000_172])
                            (try simp only [hl225000_172] at BK197)
                            (try simp only [hl225000_172] at BK198)
                            (try simp only [hl225000_172] at BK211)
                            (try simp only [hl225000_172] at BK215)
                            (try simp only [hl225000_172] at BK219)
                            (try simp only [hl225000_172] at BK224)
                            (try simp only [hl225000_172] at BK252)
                            (try simp only [hl225000_172] at HO_212000)
                            (try simp only [hl225000_172] at HO_216000)
                            (try simp only [hl225000_172] at HO_220000)
                            (try simp only [hl225000_172] at HO_253000)
                            cases kq with
                            | zero => exact absurd HA.out (by simp [laws_FnExactSumOf.j2])
                            | succ kj172 =>
                              have H := HA.out
                              clear HA
                              simp only [laws_FnExactSumOf.j2] at H
                              by_cases c223 : x110_172 = true
                              · subst c223
                                bq236_q3
                                clear H
                                have H := H1
                                clear H1
                                obtain rfl := Option.some.inj H
                                go_wp2
                                go_ret
                                bq191_q3
                              · replace c223 := Bool.eq_false_iff.mpr c223
                                subst c223
                                have H1 : ((laws_heldPoset.f kj172 t240 1).bind fun t254 => (if t254 < 0 then (some false) else (if t254 = t239 then (some true) else (some false)))) = some r := by rw [if_neg (show ¬ (false = true) by decide)] at H; exact H
                                clear H
                                have H := H1
                                clear H1
                                replace H := Option.bind_eq_some_iff.mp H
                                obtain ⟨t254, A2240, H⟩ := H
                                replace H : (if t254 < 0 then (some false) else (if t254 = t239 then (some true) else (some false))) = some r := H
                                have A224 := Aside0.mk A2240
                                clear A2240
                                by_cases c225 : t254 < 0
                                · rw [if_pos c225] at H
                                  have c225b0 : decide (t254 < 0) = true := decide_eq_true c225
                                  clear c225
                                  obtain rfl := Option.some.inj H
                                  have hnb226 := NB224_197.out
                                  have hnc226 := NB197_224.out
                                  have hnb227 := NB224_198.out
                                  have hnc227 := NB198_224.out
                                  have hnb228 := NB224_211.out
                                  have hnc228 := NB211_224.out
                                  have hnb229 := NB224_215.out
                                  have hnc229 := NB215_224.out
                                  have hnb230 := NB224_219.out
                                  have hnc230 := NB219_224.out
                                  have hnb231 := NB224_252.out
                                  have hnc231 := NB252_224.out
                                  have hcz232_0 : wc.cell? ⟨gb224, 0, none⟩ = some (.slice Ao65 t240.length co65) := (blk_cell BK224.out 0).trans rfl
                                  have hfz232_0 := blk_frozen BK224.out 0
                                  go_wp2_with (first | (bq82_q3; bq211_q3; bq98_q3; bq20_q3; bq103_q3; rintro e w233 ⟨rfl, hb⟩; refine ⟨_, rfl, ?_⟩; bq156_q3; bq164_q3; bq163_q3; clear BK224; clear BK252; bq172_q3; bq202_q3; bq165_q3))
                                  go_ret
                                  bq191_q3
                                · rw [if_neg c225] at H
                                  have c225b0 : decide (t254 < 0) = false := decide_eq_false c225
                                  clear c225
                                  by_cases c234 : t254 = t239
                                  · rw [if_pos c234] at H
                                    have c234b0 : (t254 == t239) = true := beq_iff_eq.mpr c234
                                    have c234b1 : (t254 != t239) = false := bne_eq_false_iff_eq.mpr c234
                                    clear c234
                                    obtain rfl := Option.some.inj H
                                    have hnb235 := NB224_197.out
                                    have hnc235 := NB197_224.out
                                    have hnb236 := NB224_198.out
                                    have hnc236 := NB198_224.out
                                    have hnb237 := NB224_211.out
                                    have hnc237 := NB211_224.out
                                    have hnb238 := NB224_215.out
                                    have hnc238 := NB215_224.out
                                    have hnb239 := NB224_219.out
                                    have hnc239 := NB219_224.out
                                    have hnb240 := NB224_252.out
                                    have hnc240 := NB252_224.out
                                    have hcz241_0 : wc.cell? ⟨gb224, 0, none⟩ = some (.slice Ao65 t240.length co65) := (blk_cell BK224.out 0).trans rfl
                                    have hfz241_0 := blk_frozen BK224.out 0
                                    go_wp2_with (first | (bq82_q3; bq211_q3; bq98_q3; bq20_q3; bq103_q3; rintro e w242 ⟨rfl, hb⟩; refine ⟨_, rfl, ?_⟩; bq156_q3; bq164_q3; bq163_q3; clear BK224; clear BK252; bq172_q3; bq202_q3; bq165_q3))
                                    go_ret
                                    bq191_q3
                                  · rw [if_neg c234] at H
                                    have c234b0 : (t254 == t239) = false := beq_eq_false_iff_ne.mpr c234
                                    have c234b1 : (t254 != t239) = true := bne_iff_ne.mpr c234
                                    obtain rfl := Option.some.inj H
                                    have hnb243 := NB224_197.out
                                    have hnc243 := NB197_224.out
                                    have hnb244 := NB224_198.out
                                    have hnc244 := NB198_224.out
                                    have hnb245 := NB224_211.out
                                    have hnc245 := NB211_224.out
                                    have hnb246 := NB224_215.out
                                    have hnc246 := NB215_224.out
                                    have hnb247 := NB224_219.out
                                    have hnc247 := NB219_224.out
                                    have hnb248 := NB224_252.out
                                    have hnc248 := NB252_224.out
                                    have hcz249_0 : wc.cell? ⟨gb224, 0, none⟩ = some (.slice Ao65 t240.length co65) := (blk_cell BK224.out 0).trans rfl
                                    have hfz249_0 := blk_frozen BK224.out 0
                                    go_wp2_with (first | (bq82_q3; bq211_q3; bq98_q3; bq20_q3; bq103_q3; rintro e w250 ⟨rfl, hb⟩; refine ⟨_, rfl, ?_⟩; bq156_q3; bq164_q3; bq163_q3; clear BK224; clear BK252; bq172_q3; bq202_q3; bq165_q3))
                                    go_ret
                                    bq191_q3
                        · rw [if_neg c169] at H
                          have c169b0 : (t241 == t239) = false := beq_eq_false_iff_ne.mpr c169
                          have c169b1 : (t241 != t239) = true := bne_iff_ne.mpr c169
                          obtain rfl := Option.some.inj H
                          have hnb251 := NB224_197.out
                          have hnc251 := NB197_224.out
                          have hnb252 := NB224_198.out
                          have hnc252 := NB198_224.out
                          have hnb253 := NB224_211.out
                          have hnc253 := NB211_224.out
                          have hnb254 := NB224_215.out
                          have hnc254 := NB215_224.out
                          have hnb255 := NB224_219.out
                          have hnc255 := NB219_224.out
                          have hcz256_0 : wc.cell? ⟨gb224, 0, none⟩ = some (.slice Ao65 t220.length co65) := (blk_cell BK224.out 0).trans rfl
                          have hfz256_0 := blk_frozen BK224.out 0
                          go_wp2_with (first | (bq108_q3; bq212_q3; bq54_q3; bq232_q3; rintro e w257 ⟨rfl, hy0, hb, hkp⟩; bq162_q3; clear HO_225000; bq163_q3; bq157_q3; (try clear hkp); (try clear hy0); have hcz258_0 : w257.cell? ⟨gb224, 0, none⟩ = some (.slice Ao65 t220.length co65) := (blk_cell BK224.out 0).trans rfl; have hfz258_0 := blk_frozen BK224.out 0) | (bq82_q3; bq209_q3; bq99_q3; bq20_q3; bq75_q3; rintro e w259 ⟨rfl, hb⟩; refine ⟨_, rfl, ?_⟩; bq156_q3; bq170_q3; bq163_q3; bq157_q3; bq206_q3))
                          go_ret
                          bq171_q3
              · replace c104 := Bool.eq_false_iff.mpr c104
                subst c104
                have H1 : (some false) = some r := by rw [if_neg (show ¬ (false = true) by decide)] at H; exact H
                clear H
                have H := H1
                clear H1
                obtain rfl := Option.some.inj H
                try go_wp2
                have n0_ := Aside0.mk (Kd.R_drew HO_212000.out)
                have n1_ := Aside0.mk (Kd.R_drew HO_216000.out)
                have n2_ := Aside0.mk (Kd.R_drew HO_220000.out)
                have n3_ := Aside0.mk (Kd.R_drew HO_225000.out)
                have n4_ := Aside0.mk (blk_drew BK197.out)
                have n5_ := Aside0.mk (blk_drew BK198.out)
                have n6_ := Aside0.mk (blk_drew BK211.out)
                have n7_ := Aside0.mk (blk_drew BK215.out)
                have n8_ := Aside0.mk (blk_drew BK219.out)
                have n9_ := Aside0.mk (blk_drew BK224.out)
                have n10_ := Aside0.mk (below_drew1 HB.out)
                clear HO_212000
                clear HO_216000
                clear HO_220000
                clear HO_225000
                clear BK197
                clear BK198
                clear BK211
                clear BK215
                clear BK219
                clear BK224
                clear HB
                have HO_212000 := n0_
                have HO_216000 := n1_
                have HO_220000 := n2_
                have HO_225000 := n3_
                have BK197 := n4_
                have BK198 := n5_
                have BK211 := n6_
                have BK215 := n7_
                have BK219 := n8_
                have BK224 := n9_
                have HB := n10_
                clear n0_ n1_ n2_ n3_ n4_ n5_ n6_ n7_ n8_ n9_ n10_
                refine start_ (n := 5) (S := fun w' => w'.cell? ⟨gb215, 0, none⟩ = some (.slice Ao47 t212.length co47) ∧ w'.cell? ⟨gb197, 0, none⟩ = some (.slice A0_0 l0_0.length c0_0)) (ds := []) #[false, false, false, false, false] (by kernel_rfl) rfl rfl ⟨(blk_cell BK215.out 0).trans rfl, (blk_cell BK197.out 0).trans rfl⟩ (fun hHeld => ?_)
                generalize wc.drew = w260 at HO_212000 HO_216000 HO_220000 HO_225000 BK197 BK198 BK211 BK215 BK219 BK224 HB hHeld ⊢
                bq197_q3
                rotate_left
                · rintro w' ⟨s0, s1⟩
                  go_simp
                  with_reducible rfl
                rotate_left
                · bq154_q3
                  rfl
                bq198_q3
                rotate_left
                · rintro w' ⟨s0, s1⟩
                  go_simp
                  with_reducible rfl
                rotate_left
                · bq154_q3
                  rfl
                bq215_q3
                bq169_q3
                with_reducible refine (laws_toPoset.calls kj24 _ _ l0_0 t226 _ ?side1 ?side2 A99.out).mono ?_
                bq18_q3
                (case side2 => exact HC0_0.out)
                rintro e w261 ⟨v227, rfl, ho0, hb⟩
                refine ⟨_, rfl, ?_⟩
                have n0_ := Aside0.mk bq30_q3
                have n1_ := Aside0.mk bq29_q3
                have n2_ := Aside0.mk bq28_q3
                have n3_ := Aside0.mk bq27_q3
                have n4_ := Aside0.mk bq153_q3
                have n5_ := Aside0.mk bq8_q3
                have n6_ := Aside0.mk bq9_q3
                have n7_ := Aside0.mk bq10_q3
                have n8_ := Aside0.mk bq19_q3
                have n9_ := Aside0.mk bq24_q3
                have n10_ := Aside0.mk bq11_q3
                bq192_q3
                clear HO_212000
                clear HO_216000
                clear HO_220000
                clear HO_225000
                clear BK197
                clear BK198
                clear BK211
                clear BK215
                clear BK219
                clear BK224
                clear HB
                have HO_212000 := n0_
                have HO_216000 := n1_
                have HO_220000 := n2_
                have HO_225000 := n3_
                have HO228 := n4_
                have BK197 := n5_
                have BK198 := n6_
                have BK211 := n7_
                have BK215 := n8_
                have BK219 := n9_
                have BK224 := n10_
                have HB := n11_
                bq210_q3
                (try clear hb)
                (try clear hb2)
                (try clear hk)
                (try clear hi)
                (try clear ho0)
                obtain ⟨Ao262, co262, eo262⟩ := Kd.R_slice HO228.out
                (first | subst eo262 | (injection eo262 with f1_ f2_ f3_; bq183_q3; subst f4_; subst f5_))
                bq180_q3
                clear hK K
                refine norm_ (a' := ?_) ?_ ?_
                rotate_left
                · show Act.put _ (some 56) _ = _
                  bq154_q3
                  rfl
                bq216_q3
                refine goes_ Try.func13 (by kernel_rfl) rfl #[.agg #[.slice Ao47 t212.length co47], .agg #[.slice Ao262 t226.length co262]] (by rfl) rfl rfl bq5_q3 ?_
                with_reducible refine (laws_eqPoset.calls kj24 _ _ t212 _ _ t226 true _ ?side1 ?side2 ?side3 ?side4 A100.out).mono ?_
                bq55_q3
                (case side2 => exact (Kd.R_reads' HO_216000.out).2.1)
                bq60_q3
                (case side4 => exact (Kd.R_reads' HO228.out).2.1)
                rintro e w263 ⟨rfl, hb⟩
                refine ⟨_, rfl, ?_⟩
                bq178_q3
                bq177_q3
                bq176_q3
                bq175_q3
                bq214_q3
                have n5_ := Aside0.mk bq8_q3
                have n6_ := Aside0.mk bq9_q3
                have n7_ := Aside0.mk bq10_q3
                have n8_ := Aside0.mk bq19_q3
                have n9_ := Aside0.mk bq24_q3
                have n10_ := Aside0.mk bq11_q3
                bq192_q3
                clear HO_212000
                clear HO_216000
                clear HO_220000
                clear HO_225000
                clear HO228
                clear BK197
                clear BK198
                clear BK211
                clear BK215
                clear BK219
                clear BK224
                clear HB
                have HO_212000 := n0_
                have HO_216000 := n1_
                have HO_220000 := n2_
                have HO_225000 := n3_
                have HO228 := n4_
                have BK197 := n5_
                have BK198 := n6_
                have BK211 := n7_
                have BK215 := n8_
                have BK219 := n9_
                have BK224 := n10_
                have HB := n11_
                bq210_q3
                (try clear hb)
                (try clear hb2)
                (try clear hk)
                (try clear hi)
                bq180_q3
                clear hK K
                refine norm_ (a' := ?_) ?_ ?_
                rotate_left
                · show Act.put _ (some 57) _ = _
                  bq154_q3
                  rfl
                bq201_q3
                rotate_left
                · intro w'
                  go_simp
                  with_reducible rfl
                rotate_left
                · bq154_q3
                  rfl
                refine done_ (by kernel_rfl) ?_
                try go_wp2
                have n0_ := Aside0.mk (Kd.R_drew HO_212000.out)
                have n1_ := Aside0.mk (Kd.R_drew HO_216000.out)
                have n2_ := Aside0.mk (Kd.R_drew HO_220000.out)
                have n3_ := Aside0.mk (Kd.R_drew HO_225000.out)
                have n4_ := Aside0.mk (Kd.R_drew HO228.out)
                have n5_ := Aside0.mk (blk_drew BK197.out)
                have n6_ := Aside0.mk (blk_drew BK198.out)
                have n7_ := Aside0.mk (blk_drew BK211.out)
                have n8_ := Aside0.mk (blk_drew BK215.out)
                have n9_ := Aside0.mk (blk_drew BK219.out)
                have n10_ := Aside0.mk (blk_drew BK224.out)
                have n11_ := Aside0.mk (below_drew1 HB.out)
                clear HO_212000
                clear HO_216000
                clear HO_220000
                clear HO_225000
                clear HO228
                clear BK197
                clear BK198
                clear BK211
                clear BK215
                clear BK219
                clear BK224
                clear HB
                have HO_212000 := n0_
                have HO_216000 := n1_
                have HO_220000 := n2_
                have HO_225000 := n3_
                have HO228 := n4_
                have BK197 := n5_
                have BK198 := n6_
                have BK211 := n7_
                have BK215 := n8_
                have BK219 := n9_
                have BK224 := n10_
                have HB := n11_
                bq210_q3
                refine start_ (n := 5) (S := fun w' => w'.cell? ⟨gb219, 0, none⟩ = some (.slice Ao56 t216.length co56) ∧ w'.cell? ⟨gb198, 0, none⟩ = some (.slice A1_0 l1_0.length c1_0)) (ds := []) #[false, false, false, false, false] (by kernel_rfl) rfl rfl ⟨(blk_cell BK219.out 0).trans rfl, (blk_cell BK198.out 0).trans rfl⟩ (fun hHeld => ?_)
                generalize w263.drew = w264 at HO_212000 HO_216000 HO_220000 HO_225000 HO228 BK197 BK198 BK211 BK215 BK219 BK224 HB hHeld ⊢
                bq225_q3
                rotate_left
                · rintro w' ⟨s0, s1⟩
                  go_simp
                  with_reducible rfl
                rotate_left
                · bq154_q3
                  rfl
                bq226_q3
                rotate_left
                · rintro w' ⟨s0, s1⟩
                  go_simp
                  with_reducible rfl
                rotate_left
                · bq154_q3
                  rfl
                bq242_q3
                bq166_q3
                with_reducible refine (laws_toPoset.calls kj24 _ _ l1_0 t230 _ ?side1 ?side2 A102.out).mono ?_
                bq17_q3
                (case side2 => exact HC1_0.out)
                rintro e w265 ⟨v231, rfl, ho0, hb⟩
                refine ⟨_, rfl, ?_⟩
                have n0_ := Aside0.mk bq30_q3
                have n1_ := Aside0.mk bq29_q3
                have n2_ := Aside0.mk bq28_q3
                have n3_ := Aside0.mk bq27_q3
                have n4_ := Aside0.mk (Kd.R_elder' (by bq2_q3; exact HO228.out) (Kd.R_base ho0) hb)
                bq238_q3
                have n6_ := Aside0.mk bq8_q3
                have n7_ := Aside0.mk bq9_q3
                have n8_ := Aside0.mk bq10_q3
                have n9_ := Aside0.mk bq19_q3
                have n10_ := Aside0.mk bq24_q3
                have n11_ := Aside0.mk bq11_q3
                bq208_q3
                clear HO_212000
                clear HO_216000
                clear HO_220000
                clear HO_225000
                clear HO228
                clear BK197
                clear BK198
                clear BK211
                clear BK215
                clear BK219
                clear BK224
                clear HB
                have HO_212000 := n0_
                have HO_216000 := n1_
                have HO_220000 := n2_
                have HO_225000 := n3_
                have HO228 := n4_
                have HO232 := n5_
                have BK197 := n6_
                have BK198 := n7_
                have BK211 := n8_
                have BK215 := n9_
                have BK219 := n10_
                have BK224 := n11_
                have HB := n12_
                bq189_q3
                (try clear hb)
                (try clear hb2)
                (try clear hk)
                (try clear hi)
                (try clear ho0)
                obtain ⟨Ao266, co266, eo266⟩ := Kd.R_slice HO232.out
                (first | subst eo266 | (injection eo266 with f1_ f2_ f3_; bq183_q3; subst f4_; subst f5_))
                bq203_q3
                clear hK K
                refine norm_ (a' := ?_) ?_ ?_
                rotate_left
                · show Act.put _ (some 61) _ = _
                  bq154_q3
                  rfl
                bq243_q3
                refine goes_ Try.func13 (by kernel_rfl) rfl #[.agg #[.slice Ao56 t216.length co56], .agg #[.slice Ao266 t230.length co266]] (by rfl) rfl rfl bq5_q3 ?_
                with_reducible refine (laws_eqPoset.calls kj24 _ _ t216 _ _ t230 false _ ?side1 ?side2 ?side3 ?side4 A103.out).mono ?_
                bq101_q3
                (case side2 => exact (Kd.R_reads' HO_220000.out).2.1)
                bq102_q3
                (case side4 => exact (Kd.R_reads' HO232.out).2.1)
                rintro e w267 ⟨rfl, hb⟩
                refine ⟨_, rfl, ?_⟩
                bq178_q3
                bq177_q3
                bq176_q3
                bq175_q3
                bq214_q3
                have n5_ := Aside0.mk (Kd.R_below (by bq2_q3; exact HO232.out) hb)
                have n6_ := Aside0.mk bq8_q3
                have n7_ := Aside0.mk bq9_q3
                have n8_ := Aside0.mk bq10_q3
                have n9_ := Aside0.mk bq19_q3
                have n10_ := Aside0.mk bq24_q3
                have n11_ := Aside0.mk bq11_q3
                bq208_q3
                clear HO_212000
                clear HO_216000
                clear HO_220000
                clear HO_225000
                clear HO228
                clear HO232
                clear BK197
                clear BK198
                clear BK211
                clear BK215
                clear BK219
                clear BK224
                clear HB
                have HO_212000 := n0_
                have HO_216000 := n1_
                have HO_220000 := n2_
                have HO_225000 := n3_
                have HO228 := n4_
                have HO232 := n5_
                have BK197 := n6_
                have BK198 := n7_
                have BK211 := n8_
                have BK215 := n9_
                have BK219 := n10_
                have BK224 := n11_
                have HB := n12_
                bq189_q3
                (try clear hb)
                (try clear hb2)
                (try clear hk)
                (try clear hi)
                bq203_q3
                clear hK K
                refine norm_ (a' := ?_) ?_ ?_
                rotate_left
                · show Act.put _ (some 62) _ = _
                  bq154_q3
                  rfl
                bq229_q3
                rotate_left
                · intro w'
                  go_simp
                  with_reducible rfl
                rotate_left
                · bq154_q3
                  rfl
                refine done_ (by kernel_rfl) ?_
                try go_wp2
                go_ret
                bq171_q3
            · replace c101 := Bool.eq_false_iff.mpr c101
              subst c101
              have H1 : (some false) = some r := by rw [if_neg (show ¬ (false = true) by decide)] at H; exact H
              clear H
              have H := H1
              clear H1
              obtain rfl := Option.some.inj H
              try go_wp2
              have n0_ := Aside0.mk (Kd.R_drew HO_212000.out)
              have n1_ := Aside0.mk (Kd.R_drew HO_216000.out)
              have n2_ := Aside0.mk (Kd.R_drew HO_220000.out)
              have n3_ := Aside0.mk (Kd.R_drew HO_225000.out)
              have n4_ := Aside0.mk (blk_drew BK197.out)
              have n5_ := Aside0.mk (blk_drew BK198.out)
              have n6_ := Aside0.mk (blk_drew BK211.out)
              have n7_ := Aside0.mk (blk_drew BK215.out)
              have n8_ := Aside0.mk (blk_drew BK219.out)
              have n9_ := Aside0.mk (blk_drew BK224.out)
              have n10_ := Aside0.mk (below_drew1 HB.out)
              clear HO_212000
              clear HO_216000
              clear HO_220000
              clear HO_225000
              clear BK197
              clear BK198
              clear BK211
              clear BK215
              clear BK219
              clear BK224
              clear HB
              have HO_212000 := n0_
              have HO_216000 := n1_
              have HO_220000 := n2_
              have HO_225000 := n3_
              have BK197 := n4_
              have BK198 := n5_
              have BK211 := n6_
              have BK215 := n7_
              have BK219 := n8_
              have BK224 := n9_
              have HB := n10_
              clear n0_ n1_ n2_ n3_ n4_ n5_ n6_ n7_ n8_ n9_ n10_
              refine start_ (n := 5) (S := fun w' => w'.cell? ⟨gb215, 0, none⟩ = some (.slice Ao47 t212.length co47) ∧ w'.cell? ⟨gb197, 0, none⟩ = some (.slice A0_0 l0_0.length c0_0)) (ds := []) #[false, false, false, false, false] (by kernel_rfl) rfl rfl ⟨(blk_cell BK215.out 0).trans rfl, (blk_cell BK197.out 0).trans rfl⟩ (fun hHeld => ?_)
              generalize wc.drew = w268 at HO_212000 HO_216000 HO_220000 HO_225000 BK197 BK198 BK211 BK215 BK219 BK224 HB hHeld ⊢
              bq197_q3
              rotate_left
              · rintro w' ⟨s0, s1⟩
                go_simp
                with_reducible rfl
              rotate_left
              · bq154_q3
                rfl
              bq198_q3
              rotate_left
              · rintro w' ⟨s0, s1⟩
                go_simp
                with_reducible rfl
              rotate_left
              · bq154_q3
                rfl
              bq215_q3
              bq169_q3
              with_reducible refine (laws_toPoset.calls kj24 _ _ l0_0 t226 _ ?side1 ?side2 A99.out).mono ?_
              bq18_q3
              (case side2 => exact HC0_0.out)
              rintro e w269 ⟨v227, rfl, ho0, hb⟩
              refine ⟨_, rfl, ?_⟩
              have n0_ := Aside0.mk bq30_q3
              have n1_ := Aside0.mk bq29_q3
              have n2_ := Aside0.mk bq28_q3
              have n3_ := Aside0.mk bq27_q3
              have n4_ := Aside0.mk bq153_q3
              have n5_ := Aside0.mk bq8_q3
              have n6_ := Aside0.mk bq9_q3
              have n7_ := Aside0.mk bq10_q3
              have n8_ := Aside0.mk bq19_q3
              have n9_ := Aside0.mk bq24_q3
              have n10_ := Aside0.mk bq11_q3
              bq192_q3
              clear HO_212000
              clear HO_216000
              clear HO_220000
              clear HO_225000
              clear BK197
              clear BK198
              clear BK211
              clear BK215
              clear BK219
              clear BK224
              clear HB
              have HO_212000 := n0_
              have HO_216000 := n1_
              have HO_220000 := n2_
              have HO_225000 := n3_
              have HO228 := n4_
              have BK197 := n5_
              have BK198 := n6_
              have BK211 := n7_
              have BK215 := n8_
              have BK219 := n9_
              have BK224 := n10_
              have HB := n11_
              bq210_q3
              (try clear hb)
              (try clear hb2)
              (try clear hk)
              (try clear hi)
              (try clear ho0)
              obtain ⟨Ao270, co270, eo270⟩ := Kd.R_slice HO228.out
              (first | subst eo270 | (injection eo270 with f1_ f2_ f3_; bq183_q3; subst f4_; subst f5_))
              bq180_q3
              clear hK K
              refine norm_ (a' := ?_) ?_ ?_
              rotate_left
              · show Act.put _ (some 56) _ = _
                bq154_q3
                rfl
              bq216_q3
              refine goes_ Try.func13 (by kernel_rfl) rfl #[.agg #[.slice Ao47 t212.length co47], .agg #[.slice Ao270 t226.length co270]] (by rfl) rfl rfl bq5_q3 ?_
              with_reducible refine (laws_eqPoset.calls kj24 _ _ t212 _ _ t226 false _ ?side1 ?side2 ?side3 ?side4 A100.out).mono ?_
              bq55_q3
              (case side2 => exact (Kd.R_reads' HO_216000.out).2.1)
              bq60_q3
              (case side4 => exact (Kd.R_reads' HO228.out).2.1)
              rintro e w271 ⟨rfl, hb⟩
              refine ⟨_, rfl, ?_⟩
              bq178_q3
              bq177_q3
              bq176_q3
              bq175_q3
              bq214_q3
              have n5_ := Aside0.mk bq8_q3
              have n6_ := Aside0.mk bq9_q3
              have n7_ := Aside0.mk bq10_q3
              have n8_ := Aside0.mk bq19_q3
              have n9_ := Aside0.mk bq24_q3
              have n10_ := Aside0.mk bq11_q3
              bq192_q3
              clear HO_212000
              clear HO_216000
              clear HO_220000
              clear HO_225000
              clear HO228
              clear BK197
              clear BK198
              clear BK211
              clear BK215
              clear BK219
              clear BK224
              clear HB
              have HO_212000 := n0_
              have HO_216000 := n1_
              have HO_220000 := n2_
              have HO_225000 := n3_
              have HO228 := n4_
              have BK197 := n5_
              have BK198 := n6_
              have BK211 := n7_
              have BK215 := n8_
              have BK219 := n9_
              have BK224 := n10_
              have HB := n11_
              bq210_q3
              (try clear hb)
              (try clear hb2)
              (try clear hk)
              (try clear hi)
              bq180_q3
              clear hK K
              refine norm_ (a' := ?_) ?_ ?_
              rotate_left
              · show Act.put _ (some 57) _ = _
                bq154_q3
                rfl
              bq201_q3
              rotate_left
              · intro w'
                go_simp
                with_reducible rfl
              rotate_left
              · bq154_q3
                rfl
              refine done_ (by kernel_rfl) ?_
              try go_wp2
              go_ret
              bq171_q3

end Go.Proofs.Ytinnobjcphfejaa.B
