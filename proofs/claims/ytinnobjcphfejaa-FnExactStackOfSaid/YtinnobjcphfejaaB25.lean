-- Laid by our mk.py through the kit's print.py, out of the translation. Not trusted: Lean checks it.
import Derived.Test.YtinnobjcphfejaaB0
import Derived.Test.YtinnobjcphfejaaB1
import Derived.Test.YtinnobjcphfejaaB2
import Derived.Test.YtinnobjcphfejaaB3
import Derived.Test.YtinnobjcphfejaaB8
import Derived.Test.YtinnobjcphfejaaB24
namespace Go.Proofs.Ytinnobjcphfejaa.B
open Go.RowKit Go.Proofs.YtinnobjcphfejaaW.PrintWords Go.Proofs.YtinnobjcphfejaaW.PrintLast Go.Proofs.YtinnobjcphfejaaW.PrintMore
attribute [local go_sem] max2_int min2_int max_two min_two max_three min_three max_four min_four   -- for this text's walks alone
set_option linter.unusedVariables false
set_option linter.unusedSimpArgs false

/-! ### laws_FnExactStackOf: function 4 (its contract) -/
set_option hygiene false
local macro "bq1_q4" : tactic => `(tactic| (with_reducible repeat (first | refine blk_drewN ?_ _ | refine blk_drew ?_ | refine blk_alloc ?_ _)))
local macro "bq2_q4" : tactic => `(tactic| (with_reducible repeat (first | apply Kd.R_alloc | apply Kd.R_drewN | apply Kd.R_drew)))
local macro "bq3_q4" : tactic => `(tactic| (first | (with_reducible first | exact HB.out | apply below_alloc | apply pw_below_drewN | apply below_drew1 | refine below_set ?_ GE273.out | refine below_set ?_ GE274.out | refine below_set ?_ GE287.out | refine below_set ?_ GE291.out | refine below_set ?_ GE295.out | refine below_set ?_ GE300.out) | exact HB.out))
local macro "bq4_q4" : tactic => `(tactic| (first | (with_reducible first | exact HB.out | apply below_alloc | apply pw_below_drewN | apply below_drew1 | refine below_set ?_ GE273.out | refine below_set ?_ GE274.out | refine below_set ?_ GE287.out | refine below_set ?_ GE291.out | refine below_set ?_ GE295.out | refine below_set ?_ GE300.out | refine below_set ?_ GE328.out) | exact HB.out))
local macro "bq5_q4" : term => `((by (try simp only [List.map_toArray, List.map_cons, List.map_nil]); first | done | rfl | (simp only [List.length_drop, List.length_take]; rfl)))
local macro "bq6_q4" : term => `((by repeat (first | (with_reducible first | exact HB.out | apply below_alloc | apply pw_below_drewN | apply below_drew1 | refine below_set ?_ GE273.out | refine below_set ?_ GE274.out | refine below_set ?_ GE287.out) | exact HB.out)))
local macro "bq7_q4" : tactic => `(tactic| (first | (with_reducible first | exact HB.out | apply below_alloc | apply pw_below_drewN | apply below_drew1 | refine below_set ?_ GE273.out | refine below_set ?_ GE274.out) | exact HB.out))
local macro "bq8_q4" : term => `((blk_below (g := gb273) (o := .cells #[.slice A0_0 l0_0.length c0_0] 24 (0, 0)) (by bq1_q4; exact BK273.out) hb))
local macro "bq9_q4" : term => `((blk_below (g := gb274) (o := .cells #[.slice A1_0 l1_0.length c1_0] 24 (0, 0)) (by bq1_q4; exact BK274.out) hb))
local macro "bq10_q4" : term => `((blk_below (g := gb287) (o := .cells #[.slice Ao41 t283.length co41] 26 (0, 0)) (by bq1_q4; exact BK287.out) hb))
local macro "bq11_q4" : term => `((blk_below (g := gb300) (o := .cells #[.slice Ao65 t296.length co65] 26 (0, 0)) (by bq1_q4; exact BK300.out) hb))
local macro "bq12_q4" : term => `((Kd.R_new' (Kd.R_new' (Kd.R_new' (Kd.R_new' ho0 (Kd.R_lt (by bq2_q4; exact HO_288000.out))) (Kd.R_lt (by bq2_q4; exact HO_292000.out))) (Kd.R_lt (by bq2_q4; exact HO_296000.out))) (Kd.R_lt (by bq2_q4; exact HO_301000.out))))
local macro "bq13_q4" : term => `((blk_lt (g := gb273) (o := .cells #[.slice A0_0 l0_0.length c0_0] 24 (0, 0)) (by bq1_q4; exact BK273.out)))
local macro "bq14_q4" : term => `((blk_lt (g := gb274) (o := .cells #[.slice A1_0 l1_0.length c1_0] 24 (0, 0)) (by bq1_q4; exact BK274.out)))
local macro "bq15_q4" : term => `((blk_below (g := gb295) (o := .cells #[.slice Ao56 t313.length co56] 26 (0, 0)) (by bq1_q4; exact BK295.out) hb))
local macro "bq16_q4" : term => `((blk_below (g := gb291) (o := .cells #[.slice Ao47 t311.length co47] 26 (0, 0)) (by bq1_q4; exact BK291.out) hb))
local macro "bq17_q4" : tactic => `(tactic| (case side1 => repeat (first | exact (Kd.C_below HR1_0.out HB.out) | (with_reducible refine Kd.C_alloc ?_ _) | (with_reducible refine Kd.C_drewN ?_ _) | (with_reducible refine Kd.C_drew ?_))))
local macro "bq18_q4" : tactic => `(tactic| (case side1 => repeat (first | exact (Kd.C_below HR0_0.out HB.out) | (with_reducible refine Kd.C_alloc ?_ _) | (with_reducible refine Kd.C_drewN ?_ _) | (with_reducible refine Kd.C_drew ?_))))
local macro "bq19_q4" : term => `((blk_below (g := gb291) (o := .cells #[.slice Ao47 t288.length co47] 26 (0, 0)) (by bq1_q4; exact BK291.out) hb))
local macro "bq20_q4" : tactic => `(tactic| (case side1 => repeat (first | exact (Kd.R_reads' HO_301000.out).2.2 | (with_reducible refine Kd.C_alloc ?_ _) | (with_reducible refine Kd.C_drewN ?_ _) | (with_reducible refine Kd.C_drew ?_))))
local macro "bq21_q4" : term => `((by repeat (first | (with_reducible first | exact HB.out | apply below_alloc | apply pw_below_drewN | apply below_drew1 | refine below_set ?_ GE273.out) | exact HB.out)))
local macro "bq22_q4" : term => `((by repeat (first | (with_reducible first | exact HB.out | apply below_alloc | apply pw_below_drewN | apply below_drew1 | refine below_set ?_ GE273.out | refine below_set ?_ GE274.out | refine below_set ?_ GE287.out | refine below_set ?_ GE291.out) | exact HB.out)))
local macro "bq23_q4" : term => `((blk_lt (g := gb287) (o := .cells #[.slice Ao41 t283.length co41] 26 (0, 0)) (by bq1_q4; exact BK287.out)))
local macro "bq24_q4" : term => `((blk_below (g := gb295) (o := .cells #[.slice Ao56 t292.length co56] 26 (0, 0)) (by bq1_q4; exact BK295.out) hb))
local macro "bq25_q4" : term => `((by repeat (first | (with_reducible first | exact HB.out | apply below_alloc | apply pw_below_drewN | apply below_drew1 | refine below_set ?_ GE273.out | refine below_set ?_ GE274.out | refine below_set ?_ GE287.out | refine below_set ?_ GE291.out | refine below_set ?_ GE295.out) | exact HB.out)))
local macro "bq26_q4" : term => `((by repeat (first | (with_reducible first | exact HB.out | apply below_alloc | apply pw_below_drewN | apply below_drew1) | exact HB.out)))
local macro "bq27_q4" : term => `((Kd.R_elder' (by bq2_q4; exact HO_301000.out) (Kd.R_base ho0) hb))
local macro "bq28_q4" : term => `((Kd.R_elder' (by bq2_q4; exact HO_296000.out) (Kd.R_base ho0) hb))
local macro "bq29_q4" : term => `((Kd.R_elder' (by bq2_q4; exact HO_292000.out) (Kd.R_base ho0) hb))
local macro "bq30_q4" : term => `((Kd.R_elder' (by bq2_q4; exact HO_288000.out) (Kd.R_base ho0) hb))
local macro "bq31_q4" : tactic => `(tactic| ((case hr => first | (go_simp; done) | (go_simp; rfl))))
local macro "bq32_q4" : term => `((blk_lt (g := gb300) (o := .cells #[.slice Ao65 t296.length co65] 26 (0, 0)) (by bq1_q4; exact BK300.out)))
local macro "bq33_q4" : term => `((blk_lt (g := gb295) (o := .cells #[.slice Ao56 t313.length co56] 26 (0, 0)) (by bq1_q4; exact BK295.out)))
local macro "bq34_q4" : term => `((blk_lt (g := gb291) (o := .cells #[.slice Ao47 t311.length co47] 26 (0, 0)) (by bq1_q4; exact BK291.out)))
local macro "bq35_q4" : term => `((by simp only [putAll, Act.put, List.setIfInBounds_toArray, List.set_cons_zero, List.set_cons_succ]))
local macro "bq36_q4" : tactic => `(tactic| ((case side3 => refine (Kd.R_reads' (e := 3) (base := w.heap.size) (ok := fun k_ => (some k_ ≠ (v319 : Value).ownBlock ∧ (some k_ ≠ (v322 : Value).ownBlock ∧ (some k_ ≠ (.slice Ao191 t324.length co191 : Value).ownBlock ∧ (some k_ ≠ (.slice Ao47 t311.length co47 : Value).ownBlock ∧ (some k_ ≠ (.slice Ao56 t313.length co56 : Value).ownBlock ∧ some k_ ≠ (.slice Ao65 t296.length co65 : Value).ownBlock)))))) (n := t283.length) (c := co41) ?_).2.2; exact (by bq2_q4; exact (Kd.R_mono (Kd.R_far (p := ⟨gb328, 0, none⟩) (Kd.R_types HO_288000.out BK328.out (by decide)) (fun _ hk => hk.2) (.slice Ao191 t324.length co191)) (fun _ h_ => h_.1))))))
local macro "bq37_q4" : term => `((Kd.R_mono (ok' := fun k_ => some k_ ≠ (.slice Ao47 t311.length co47 : Value).ownBlock ∧ some k_ ≠ (.slice Ao56 t313.length co56 : Value).ownBlock ∧ some k_ ≠ (.slice Ao65 t296.length co65 : Value).ownBlock) (Kd.R_keptB (HO_288000.out) hkp (fun k_ hk_ hs_ => (hk_.2.2) hs_)) (fun k_ hk_ => ⟨hk_.1.1, hk_.1.2.1, hk_.1.2.2⟩)))
local macro "bq38_q4" : term => `((Kd.R_mono (ok' := fun k_ => some k_ ≠ (.slice Ao41 t283.length co41 : Value).ownBlock ∧ some k_ ≠ (.slice Ao56 t313.length co56 : Value).ownBlock ∧ some k_ ≠ (.slice Ao65 t296.length co65 : Value).ownBlock) (Kd.R_keptB (HO_292000.out) hkp (fun k_ hk_ hs_ => (hk_.2.2) hs_)) (fun k_ hk_ => ⟨hk_.1.1, hk_.1.2.1, hk_.1.2.2⟩)))
local macro "bq39_q4" : term => `((Kd.R_mono (ok' := fun k_ => some k_ ≠ (.slice Ao41 t283.length co41 : Value).ownBlock ∧ some k_ ≠ (.slice Ao47 t311.length co47 : Value).ownBlock ∧ some k_ ≠ (.slice Ao65 t296.length co65 : Value).ownBlock) (Kd.R_keptB (HO_296000.out) hkp (fun k_ hk_ hs_ => (hk_.2.2) hs_)) (fun k_ hk_ => ⟨hk_.1.1, hk_.1.2.1, hk_.1.2.2⟩)))
local macro "bq40_q4" : tactic => `(tactic| ((case side1 => refine (Kd.R_reads' (e := 3) (base := w.heap.size) (ok := fun k_ => (some k_ ≠ (v319 : Value).ownBlock ∧ (some k_ ≠ (v322 : Value).ownBlock ∧ (some k_ ≠ (.slice Ao41 t283.length co41 : Value).ownBlock ∧ (some k_ ≠ (.slice Ao47 t311.length co47 : Value).ownBlock ∧ (some k_ ≠ (.slice Ao56 t313.length co56 : Value).ownBlock ∧ some k_ ≠ (.slice Ao65 t296.length co65 : Value).ownBlock)))))) (n := t324.length) (c := co191) ?_).2.2; exact (by bq2_q4; exact (Kd.R_mono (Kd.R_far (p := ⟨gb328, 0, none⟩) (Kd.R_types HO326.out BK328.out (by decide)) (fun _ hk => hk.2) (.slice Ao191 t324.length co191)) (fun _ h_ => h_.1))))))
local macro "bq41_q4" : tactic => `(tactic| ((case side1 => refine (Kd.R_reads' (e := 3) (base := w.heap.size) (ok := fun k_ => (((((True ∧ some k_ ≠ (v278 : Value).ownBlock) ∧ some k_ ≠ (v281 : Value).ownBlock) ∧ some k_ ≠ (.slice Ao41 t283.length co41 : Value).ownBlock) ∧ some k_ ≠ (.slice Ao47 t288.length co47 : Value).ownBlock) ∧ some k_ ≠ (.slice Ao56 t292.length co56 : Value).ownBlock)) (n := t296.length) (c := co65) ?_).2.2; exact (by bq2_q4; exact (Kd.R_mono (Kd.R_far (p := ⟨gb300, 0, none⟩) (Kd.R_types HO298.out BK300.out (by decide)) (fun _ hk => hk.2) (.slice Ao65 t296.length co65)) (fun _ h_ => h_.1))))))
local macro "bq42_q4" : tactic => `(tactic| ((case side3 => refine (Kd.R_reads' (e := 3) (base := w.heap.size) (ok := fun k_ => ((((some k_ ≠ (v278 : Value).ownBlock ∧ some k_ ≠ (v281 : Value).ownBlock) ∧ some k_ ≠ (.slice Ao47 t288.length co47 : Value).ownBlock) ∧ some k_ ≠ (.slice Ao56 t292.length co56 : Value).ownBlock) ∧ some k_ ≠ (.slice Ao65 t296.length co65 : Value).ownBlock)) (n := t283.length) (c := co41) ?_).2.2; exact (by bq2_q4; exact (Kd.R_mono (Kd.R_far (p := ⟨gb300, 0, none⟩) (Kd.R_types HO285.out BK300.out (by decide)) (fun _ hk => hk.2) (.slice Ao65 t296.length co65)) (fun _ h_ => h_.1))))))
local macro "bq43_q4" : tactic => `(tactic| (case side3 => repeat (first | exact (Kd.R_reads' HO323.out).2.2 | (with_reducible refine Kd.C_alloc ?_ _) | (with_reducible refine Kd.C_drewN ?_ _) | (with_reducible refine Kd.C_drew ?_))))
local macro "bq44_q4" : tactic => `(tactic| (case side3 => repeat (first | exact (Kd.R_reads' HO282.out).2.2 | (with_reducible refine Kd.C_alloc ?_ _) | (with_reducible refine Kd.C_drewN ?_ _) | (with_reducible refine Kd.C_drew ?_))))
local macro "bq45_q4" : tactic => `(tactic| (case side1 => repeat (first | exact (Kd.R_reads' HO320.out).2.2 | (with_reducible refine Kd.C_alloc ?_ _) | (with_reducible refine Kd.C_drewN ?_ _) | (with_reducible refine Kd.C_drew ?_))))
local macro "bq46_q4" : tactic => `(tactic| (case side1 => repeat (first | exact (Kd.R_reads' HO279.out).2.2 | (with_reducible refine Kd.C_alloc ?_ _) | (with_reducible refine Kd.C_drewN ?_ _) | (with_reducible refine Kd.C_drew ?_))))
local macro "bq47_q4" : term => `((by rw [hg]; exact (below_size (by repeat bq7_q4)) : w.heap.size ≤ gb287))
local macro "bq48_q4" : term => `((by rw [hg]; exact (below_size (by repeat bq3_q4)) : w.heap.size ≤ gb328))
local macro "bq49_q4" : term => `((blk_below (g := gb328) (o := .cells #[.slice none 0 0] 26 (0, 0)) (by bq1_q4; exact BK328.out) hb))
local macro "bq50_q4" : term => `((blk_below (g := gb287) (o := .cells #[.slice none 0 0] 26 (0, 0)) (by bq1_q4; exact BK287.out) hb))
local macro "bq51_q4" : term => `((by (try simp only [List.map_toArray, List.map_cons, List.map_nil]); first | done | (rw [show t316.length = t296.length from (Kd.R_reads' HO_301000.out).1.symm] <;> rfl) | rfl | (simp only [List.length_drop, List.length_take]; rfl)))
local macro "bq52_q4" : tactic => `(tactic| ((first | subst eo187 | (injection eo187 with f1_ f2_ f3_; have f4_ := f1_.symm; have f5_ := f3_.symm; clear f1_ f2_ f3_; subst f4_; subst f5_))))
local macro "bq53_q4" : tactic => `(tactic| ((first | subst eo37 | (injection eo37 with f1_ f2_ f3_; have f4_ := f1_.symm; have f5_ := f3_.symm; clear f1_ f2_ f3_; subst f4_; subst f5_))))
local macro "bq54_q4" : tactic => `(tactic| (with_reducible refine (laws_markPoset.calls kj106 (fun k_ => some k_ = (.slice Ao65 t296.length co65 : Value).ownBlock) (.slice Ao65 t296.length co65) t296 1 t315 t316 w _ ?side1 ?side2 A157.out).mono ?_))
local macro "bq55_q4" : tactic => `(tactic| (case side1 => repeat (first | exact (Kd.R_reads' HO_292000.out).2.2 | (with_reducible refine Kd.C_alloc ?_ _) | (with_reducible refine Kd.C_drewN ?_ _) | (with_reducible refine Kd.C_drew ?_))))
local macro "bq56_q4" : term => `((by bq2_q4; exact Kd.R_mono HO_301000.out (fun _ hk => ⟨hk.1.1.2, ⟨hk.1.2, ⟨hk.2, ⟨hk.1.1.1.1, ⟨hk.1.1.1.2.1, hk.1.1.1.2.2⟩⟩⟩⟩⟩)))
local macro "bq57_q4" : term => `((by bq2_q4; exact Kd.R_mono HO_296000.out (fun _ hk => ⟨hk.1.1.2, ⟨hk.1.2, ⟨hk.2, ⟨hk.1.1.1.1, ⟨hk.1.1.1.2.1, hk.1.1.1.2.2⟩⟩⟩⟩⟩)))
local macro "bq58_q4" : term => `((by bq2_q4; exact Kd.R_mono HO_292000.out (fun _ hk => ⟨hk.1.1.2, ⟨hk.1.2, ⟨hk.2, ⟨hk.1.1.1.1, ⟨hk.1.1.1.2.1, hk.1.1.1.2.2⟩⟩⟩⟩⟩)))
local macro "bq59_q4" : term => `((by bq2_q4; exact Kd.R_mono HO_288000.out (fun _ hk => ⟨hk.1.1.2, ⟨hk.1.2, ⟨hk.2, ⟨hk.1.1.1.1, ⟨hk.1.1.1.2.1, hk.1.1.1.2.2⟩⟩⟩⟩⟩)))
local macro "bq60_q4" : tactic => `(tactic| (case side3 => repeat (first | exact (Kd.R_reads' HO304.out).2.2 | (with_reducible refine Kd.C_alloc ?_ _) | (with_reducible refine Kd.C_drewN ?_ _) | (with_reducible refine Kd.C_drew ?_))))
local macro "bq61_q4" : term => `((by bq2_q4; exact Kd.R_mono HO326.out (fun _ hk => ⟨hk.1.2, ⟨hk.2, ⟨hk.1.1.1.1.1.2, ⟨hk.1.1.1.1.2, ⟨hk.1.1.1.2, hk.1.1.2⟩⟩⟩⟩⟩)))
local macro "bq62_q4" : term => `((by bq2_q4; exact Kd.R_mono HO323.out (fun _ hk => ⟨hk.1.2, ⟨hk.2, ⟨hk.1.1.1.1.1.2, ⟨hk.1.1.1.1.2, ⟨hk.1.1.1.2, hk.1.1.2⟩⟩⟩⟩⟩)))
local macro "bq63_q4" : term => `((by bq2_q4; exact Kd.R_mono HO320.out (fun _ hk => ⟨hk.1.2, ⟨hk.2, ⟨hk.1.1.1.1.1.2, ⟨hk.1.1.1.1.2, ⟨hk.1.1.1.2, hk.1.1.2⟩⟩⟩⟩⟩)))
local macro "bq64_q4" : term => `((by bq2_q4; exact (Kd.R_mono (Kd.R_far (p := ⟨gb295, 0, none⟩) (Kd.R_types HO294.out BK295.out (by decide)) (fun _ hk => hk.2) (.slice Ao56 t292.length co56)) (fun _ h_ => h_.1))))
local macro "bq65_q4" : term => `((by bq2_q4; exact (Kd.R_mono (Kd.R_far (p := ⟨gb295, 0, none⟩) (Kd.R_types HO290.out BK295.out (by decide)) (fun _ hk => hk.2) (.slice Ao56 t292.length co56)) (fun _ h_ => h_.1))))
local macro "bq66_q4" : term => `((Kd.R_elder' (by bq2_q4; exact HO320.out) (Kd.R_base ho0) hb))
local macro "bq67_q4" : term => `((Kd.R_elder' (by bq2_q4; exact HO279.out) (Kd.R_base ho0) hb))
local macro "bq68_q4" : term => `((Kd.R_new' (Kd.R_new' bq12_q4 (Kd.R_lt (by bq2_q4; exact HO320.out))) (Kd.R_lt (by bq2_q4; exact HO323.out))))
local macro "bq69_q4" : term => `((blk_lt (g := gb291) (o := .cells #[.slice Ao47 t288.length co47] 26 (0, 0)) (by bq1_q4; exact BK291.out)))
local macro "bq70_q4" : term => `((Kd.R_new' (Kd.R_new' ho0 (Kd.R_lt (by bq2_q4; exact HO279.out))) (Kd.R_lt (by bq2_q4; exact HO282.out))))
local macro "bq71_q4" : tactic => `(tactic| ((first | subst eo188 | (injection eo188 with f1_ f2_ f3_; have f4_ := f1_.symm; have f5_ := f3_.symm; clear f1_ f2_ f3_; subst f4_; subst f5_))))
local macro "bq72_q4" : term => `((by rw [hg]; exact (below_size bq26_q4) : w.heap.size ≤ gb273))
local macro "bq73_q4" : term => `((by rw [hg]; exact (below_size bq21_q4) : w.heap.size ≤ gb274))
local macro "bq74_q4" : tactic => `(tactic| ((first | subst eo38 | (injection eo38 with f1_ f2_ f3_; have f4_ := f1_.symm; have f5_ := f3_.symm; clear f1_ f2_ f3_; subst f4_; subst f5_))))
local macro "bq75_q4" : tactic => `(tactic| ((case side2 => rw [show t316.length = t296.length from (Kd.R_reads' HO_301000.out).1.symm]; exact (Kd.R_reads' HO_301000.out).2.1)))
local macro "bq76_q4" : term => `((blk_kept (by bq1_q4; exact BK300.out) hkp (fun hs_ => (fun e_ => (Kd.R_ne HO_301000.out BK300.out (by decide)) e_) hs_)))
local macro "bq77_q4" : term => `((blk_kept (by bq1_q4; exact BK295.out) hkp (fun hs_ => (fun e_ => (Kd.R_ne HO_301000.out BK295.out (by decide)) e_) hs_)))
local macro "bq78_q4" : term => `((blk_kept (by bq1_q4; exact BK291.out) hkp (fun hs_ => (fun e_ => (Kd.R_ne HO_301000.out BK291.out (by decide)) e_) hs_)))
local macro "bq79_q4" : term => `((blk_kept (by bq1_q4; exact BK287.out) hkp (fun hs_ => (fun e_ => (Kd.R_ne HO_301000.out BK287.out (by decide)) e_) hs_)))
local macro "bq80_q4" : term => `((blk_kept (by bq1_q4; exact BK274.out) hkp (fun hs_ => (fun e_ => (Kd.R_ne HO_301000.out BK274.out (by decide)) e_) hs_)))
local macro "bq81_q4" : term => `((blk_kept (by bq1_q4; exact BK273.out) hkp (fun hs_ => (fun e_ => (Kd.R_ne HO_301000.out BK273.out (by decide)) e_) hs_)))
local macro "bq82_q4" : tactic => `(tactic| (with_reducible refine gate_callee (f := 15) rfl ?_))
local macro "bq83_q4" : term => `((blk_below (g := gb328) (o := .cells #[.slice Ao191 t324.length co191] 26 (0, 0)) (by bq1_q4; exact BK328.out) hb))
local macro "bq84_q4" : term => `((blk_below (g := gb300) (o := .cells #[.slice Ao65 t316.length co65] 26 (0, 0)) (by bq1_q4; exact BK300.out) hb))
local macro "bq85_q4" : term => `((Kd.R_below (by bq2_q4; exact (Kd.R_mono (Kd.R_far (p := ⟨gb328, 0, none⟩) (Kd.R_types HO_301000.out BK328.out (by decide)) (fun _ hk => hk.2) (.slice Ao191 t324.length co191)) (fun _ h_ => h_.1))) hb))
local macro "bq86_q4" : term => `((Kd.R_below (by bq2_q4; exact (Kd.R_mono (Kd.R_far (p := ⟨gb328, 0, none⟩) (Kd.R_types HO_296000.out BK328.out (by decide)) (fun _ hk => hk.2) (.slice Ao191 t324.length co191)) (fun _ h_ => h_.1))) hb))
local macro "bq87_q4" : term => `((Kd.R_below (by bq2_q4; exact (Kd.R_mono (Kd.R_far (p := ⟨gb328, 0, none⟩) (Kd.R_types HO_292000.out BK328.out (by decide)) (fun _ hk => hk.2) (.slice Ao191 t324.length co191)) (fun _ h_ => h_.1))) hb))
local macro "bq88_q4" : term => `((Kd.R_below (by bq2_q4; exact (Kd.R_mono (Kd.R_far (p := ⟨gb328, 0, none⟩) (Kd.R_types HO_288000.out BK328.out (by decide)) (fun _ hk => hk.2) (.slice Ao191 t324.length co191)) (fun _ h_ => h_.1))) hb))
local macro "bq89_q4" : term => `((Kd.R_below (by bq2_q4; exact (Kd.R_mono (Kd.R_far (p := ⟨gb328, 0, none⟩) (Kd.R_types HO326.out BK328.out (by decide)) (fun _ hk => hk.2) (.slice Ao191 t324.length co191)) (fun _ h_ => h_.1))) hb))
local macro "bq90_q4" : term => `((Kd.R_below (by bq2_q4; exact (Kd.R_mono (Kd.R_far (p := ⟨gb328, 0, none⟩) (Kd.R_types HO323.out BK328.out (by decide)) (fun _ hk => hk.2) (.slice Ao191 t324.length co191)) (fun _ h_ => h_.1))) hb))
local macro "bq91_q4" : term => `((Kd.R_below (by bq2_q4; exact (Kd.R_mono (Kd.R_far (p := ⟨gb328, 0, none⟩) (Kd.R_types HO320.out BK328.out (by decide)) (fun _ hk => hk.2) (.slice Ao191 t324.length co191)) (fun _ h_ => h_.1))) hb))
local macro "bq92_q4" : term => `((Kd.R_below (by bq2_q4; exact (Kd.R_mono (Kd.R_far (p := ⟨gb300, 0, none⟩) (Kd.R_types HO298.out BK300.out (by decide)) (fun _ hk => hk.2) (.slice Ao65 t296.length co65)) (fun _ h_ => h_.1))) hb))
local macro "bq93_q4" : term => `((Kd.R_below (by bq2_q4; exact (Kd.R_mono (Kd.R_far (p := ⟨gb300, 0, none⟩) (Kd.R_types HO294.out BK300.out (by decide)) (fun _ hk => hk.2) (.slice Ao65 t296.length co65)) (fun _ h_ => h_.1))) hb))
local macro "bq94_q4" : term => `((Kd.R_below (by bq2_q4; exact (Kd.R_mono (Kd.R_far (p := ⟨gb300, 0, none⟩) (Kd.R_types HO290.out BK300.out (by decide)) (fun _ hk => hk.2) (.slice Ao65 t296.length co65)) (fun _ h_ => h_.1))) hb))
local macro "bq95_q4" : term => `((Kd.R_below (by bq2_q4; exact (Kd.R_mono (Kd.R_far (p := ⟨gb300, 0, none⟩) (Kd.R_types HO285.out BK300.out (by decide)) (fun _ hk => hk.2) (.slice Ao65 t296.length co65)) (fun _ h_ => h_.1))) hb))
local macro "bq96_q4" : term => `((Kd.R_below (by bq2_q4; exact (Kd.R_mono (Kd.R_far (p := ⟨gb300, 0, none⟩) (Kd.R_types HO282.out BK300.out (by decide)) (fun _ hk => hk.2) (.slice Ao65 t296.length co65)) (fun _ h_ => h_.1))) hb))
local macro "bq97_q4" : term => `((Kd.R_below (by bq2_q4; exact (Kd.R_mono (Kd.R_far (p := ⟨gb300, 0, none⟩) (Kd.R_types HO279.out BK300.out (by decide)) (fun _ hk => hk.2) (.slice Ao65 t296.length co65)) (fun _ h_ => h_.1))) hb))
local macro "bq98_q4" : tactic => `(tactic| (with_reducible refine (laws_heldPoset.calls kj172 _ _ t316 1 t330 _ ?side1 ?side2 A224.out).mono ?_))
local macro "bq99_q4" : tactic => `(tactic| (with_reducible refine (laws_heldPoset.calls kj106 _ _ t316 1 t317 _ ?side1 ?side2 A158.out).mono ?_))
local macro "bq100_q4" : tactic => `(tactic| (case side3 => repeat (first | exact (Kd.R_reads' HO_288000.out).2.2 | (with_reducible refine Kd.C_alloc ?_ _) | (with_reducible refine Kd.C_drewN ?_ _) | (with_reducible refine Kd.C_drew ?_))))
local macro "bq101_q4" : tactic => `(tactic| (case side1 => repeat (first | exact (Kd.R_reads' HO_296000.out).2.2 | (with_reducible refine Kd.C_alloc ?_ _) | (with_reducible refine Kd.C_drewN ?_ _) | (with_reducible refine Kd.C_drew ?_))))
local macro "bq102_q4" : tactic => `(tactic| (case side3 => repeat (first | exact (Kd.R_reads' HO308.out).2.2 | (with_reducible refine Kd.C_alloc ?_ _) | (with_reducible refine Kd.C_drewN ?_ _) | (with_reducible refine Kd.C_drew ?_))))
local macro "bq103_q4" : tactic => `(tactic| (case side2 => exact (Kd.R_reads' HO_301000.out).2.1))
local macro "bq104_q4" : tactic => `(tactic| (with_reducible refine (laws_szPoset.calls _ _ l0_0 1048576 t275 _ ?side1 ?side2 A3.out).mono ?_))
local macro "bq105_q4" : term => `((by bq2_q4; exact Kd.R_mono HO285.out (fun _ hk => ⟨hk.1.2, hk.2⟩)))
local macro "bq106_q4" : term => `((by bq2_q4; exact Kd.R_mono HO282.out (fun _ hk => ⟨hk.1.2, hk.2⟩)))
local macro "bq107_q4" : term => `((by bq2_q4; exact Kd.R_mono HO279.out (fun _ hk => ⟨hk.1.2, hk.2⟩)))
local macro "bq108_q4" : tactic => `(tactic| (with_reducible refine gate_callee (f := 14) rfl ?_))
local macro "bq109_q4" : tactic => `(tactic| (with_reducible refine gate_callee (f := 9) rfl ?_))
local macro "bq110_q4" : term => `((by bq2_q4; exact (Kd.R_mono (Kd.R_far (p := ⟨gb295, 0, none⟩) (Kd.R_types HO285.out BK295.out (by decide)) (fun _ hk => hk.2) (.slice Ao56 t292.length co56)) (fun _ h_ => h_.1))))
local macro "bq111_q4" : term => `((by bq2_q4; exact (Kd.R_mono (Kd.R_far (p := ⟨gb295, 0, none⟩) (Kd.R_types HO282.out BK295.out (by decide)) (fun _ hk => hk.2) (.slice Ao56 t292.length co56)) (fun _ h_ => h_.1))))
local macro "bq112_q4" : term => `((by bq2_q4; exact (Kd.R_mono (Kd.R_far (p := ⟨gb295, 0, none⟩) (Kd.R_types HO279.out BK295.out (by decide)) (fun _ hk => hk.2) (.slice Ao56 t292.length co56)) (fun _ h_ => h_.1))))
local macro "bq113_q4" : term => `((by bq2_q4; exact (Kd.R_mono (Kd.R_far (p := ⟨gb291, 0, none⟩) (Kd.R_types HO290.out BK291.out (by decide)) (fun _ hk => hk.2) (.slice Ao47 t288.length co47)) (fun _ h_ => h_.1))))
local macro "bq114_q4" : term => `((by bq2_q4; exact (Kd.R_mono (Kd.R_far (p := ⟨gb291, 0, none⟩) (Kd.R_types HO285.out BK291.out (by decide)) (fun _ hk => hk.2) (.slice Ao47 t288.length co47)) (fun _ h_ => h_.1))))
local macro "bq115_q4" : term => `((by bq2_q4; exact (Kd.R_mono (Kd.R_far (p := ⟨gb291, 0, none⟩) (Kd.R_types HO282.out BK291.out (by decide)) (fun _ hk => hk.2) (.slice Ao47 t288.length co47)) (fun _ h_ => h_.1))))
local macro "bq116_q4" : term => `((by bq2_q4; exact (Kd.R_mono (Kd.R_far (p := ⟨gb291, 0, none⟩) (Kd.R_types HO279.out BK291.out (by decide)) (fun _ hk => hk.2) (.slice Ao47 t288.length co47)) (fun _ h_ => h_.1))))
local macro "bq117_q4" : term => `((by bq2_q4; exact (Kd.R_mono (Kd.R_far (p := ⟨gb287, 0, none⟩) (Kd.R_types HO285.out BK287.out (by decide)) (fun _ hk => hk.2) (.slice Ao41 t283.length co41)) (fun _ h_ => h_.1))))
local macro "bq118_q4" : term => `((by bq2_q4; exact (Kd.R_mono (Kd.R_far (p := ⟨gb287, 0, none⟩) (Kd.R_types HO282.out BK287.out (by decide)) (fun _ hk => hk.2) (.slice Ao41 t283.length co41)) (fun _ h_ => h_.1))))
local macro "bq119_q4" : term => `((by bq2_q4; exact (Kd.R_mono (Kd.R_far (p := ⟨gb287, 0, none⟩) (Kd.R_types HO279.out BK287.out (by decide)) (fun _ hk => hk.2) (.slice Ao41 t283.length co41)) (fun _ h_ => h_.1))))
local macro "bq120_q4" : term => `((blk_below (g := gb328) (o := .cells #[.slice Ao191 t324.length co191] 26 (0, 0)) (by bq1_q4; refine blk_put (cs := #[.slice none 0 0]) ?_ 0 _ rfl; bq1_q4; exact BK328.out) hb))
local macro "bq121_q4" : term => `((blk_below (g := gb300) (o := .cells #[.slice Ao65 t296.length co65] 26 (0, 0)) (by bq1_q4; refine blk_put (cs := #[.slice none 0 0]) ?_ 0 _ rfl; bq1_q4; exact BK300.out) hb))
local macro "bq122_q4" : term => `((Kd.R_elder' (by bq2_q4; exact HO323.out) (Kd.R_base ho0) hb))
local macro "bq123_q4" : term => `((Kd.R_elder' (by bq2_q4; exact HO282.out) (Kd.R_base ho0) hb))
local macro "bq124_q4" : term => `((blk_below (g := gb300) (o := .cells #[.slice Ao65 t296.length co65] 26 (0, 0)) (by bq1_q4; refine blk_far ?_ NB300_328.out _; bq1_q4; exact BK300.out) hb))
local macro "bq125_q4" : term => `((blk_below (g := gb295) (o := .cells #[.slice Ao56 t313.length co56] 26 (0, 0)) (by bq1_q4; refine blk_far ?_ NB295_328.out _; bq1_q4; exact BK295.out) hb))
local macro "bq126_q4" : term => `((blk_below (g := gb295) (o := .cells #[.slice Ao56 t292.length co56] 26 (0, 0)) (by bq1_q4; refine blk_far ?_ NB295_300.out _; bq1_q4; exact BK295.out) hb))
local macro "bq127_q4" : term => `((blk_below (g := gb291) (o := .cells #[.slice Ao47 t311.length co47] 26 (0, 0)) (by bq1_q4; refine blk_far ?_ NB291_328.out _; bq1_q4; exact BK291.out) hb))
local macro "bq128_q4" : term => `((blk_below (g := gb291) (o := .cells #[.slice Ao47 t288.length co47] 26 (0, 0)) (by bq1_q4; refine blk_far ?_ NB291_300.out _; bq1_q4; exact BK291.out) hb))
local macro "bq129_q4" : term => `((blk_below (g := gb287) (o := .cells #[.slice Ao41 t283.length co41] 26 (0, 0)) (by bq1_q4; refine blk_far ?_ NB287_328.out _; bq1_q4; exact BK287.out) hb))
local macro "bq130_q4" : term => `((blk_below (g := gb287) (o := .cells #[.slice Ao41 t283.length co41] 26 (0, 0)) (by bq1_q4; refine blk_far ?_ NB287_300.out _; bq1_q4; exact BK287.out) hb))
local macro "bq131_q4" : term => `((blk_below (g := gb274) (o := .cells #[.slice A1_0 l1_0.length c1_0] 24 (0, 0)) (by bq1_q4; refine blk_far ?_ NB274_328.out _; bq1_q4; exact BK274.out) hb))
local macro "bq132_q4" : term => `((blk_below (g := gb274) (o := .cells #[.slice A1_0 l1_0.length c1_0] 24 (0, 0)) (by bq1_q4; refine blk_far ?_ NB274_300.out _; bq1_q4; exact BK274.out) hb))
local macro "bq133_q4" : term => `((blk_below (g := gb273) (o := .cells #[.slice A0_0 l0_0.length c0_0] 24 (0, 0)) (by bq1_q4; refine blk_far ?_ NB273_328.out _; bq1_q4; exact BK273.out) hb))
local macro "bq134_q4" : term => `((blk_below (g := gb273) (o := .cells #[.slice A0_0 l0_0.length c0_0] 24 (0, 0)) (by bq1_q4; refine blk_far ?_ NB273_300.out _; bq1_q4; exact BK273.out) hb))
local macro "bq135_q4" : term => `((by rw [hg]; exact Nat.ne_of_lt bq34_q4 : gb291 ≠ gb328))
local macro "bq136_q4" : term => `((by rw [hg]; exact Nat.ne_of_lt bq33_q4 : gb295 ≠ gb328))
local macro "bq137_q4" : term => `((by rw [hg]; exact Nat.ne_of_lt bq32_q4 : gb300 ≠ gb328))
local macro "bq138_q4" : term => `((by rw [hg]; exact Nat.ne_of_lt bq23_q4 : gb287 ≠ gb328))
local macro "bq139_q4" : term => `((by rw [hg]; exact Nat.ne_of_lt bq14_q4 : gb274 ≠ gb328))
local macro "bq140_q4" : term => `((by rw [hg]; exact Nat.ne_of_lt bq14_q4 : gb274 ≠ gb287))
local macro "bq141_q4" : term => `((by rw [hg]; exact Nat.ne_of_lt bq13_q4 : gb273 ≠ gb328))
local macro "bq142_q4" : term => `((by rw [hg]; exact Nat.ne_of_lt bq13_q4 : gb273 ≠ gb287))
local macro "bq143_q4" : term => `((by rw [hg]; exact Nat.ne_of_gt bq34_q4 : gb328 ≠ gb291))
local macro "bq144_q4" : term => `((by rw [hg]; exact Nat.ne_of_gt bq33_q4 : gb328 ≠ gb295))
local macro "bq145_q4" : term => `((by rw [hg]; exact Nat.ne_of_gt bq32_q4 : gb328 ≠ gb300))
local macro "bq146_q4" : term => `((by rw [hg]; exact Nat.ne_of_gt bq23_q4 : gb328 ≠ gb287))
local macro "bq147_q4" : term => `((by rw [hg]; exact Nat.ne_of_gt bq14_q4 : gb328 ≠ gb274))
local macro "bq148_q4" : term => `((by rw [hg]; exact Nat.ne_of_gt bq14_q4 : gb287 ≠ gb274))
local macro "bq149_q4" : term => `((by rw [hg]; exact Nat.ne_of_gt bq13_q4 : gb328 ≠ gb273))
local macro "bq150_q4" : term => `((by rw [hg]; exact Nat.ne_of_gt bq13_q4 : gb287 ≠ gb273))
local macro "bq151_q4" : tactic => `(tactic| (case side4 => exact (Kd.R_reads' HO_288000.out).2.1))
local macro "bq152_q4" : tactic => `(tactic| (with_reducible refine gate_callee (f := 13) rfl ?_))
local macro "bq153_q4" : term => `((Kd.R_lower bq12_q4 (below_size (by repeat bq3_q4))))
local macro "bq154_q4" : tactic => `(tactic| (simp only [Act.put, List.setIfInBounds_toArray, List.set_cons_zero, List.set_cons_succ, i64_w, i32_w]))
local macro "bq155_q4" : tactic => `(tactic| (refine hK.out _ _ ⟨(blk_cell BK273.out 0).trans rfl, (blk_cell BK274.out 0).trans rfl⟩ (fun hHeld => ?_)))
local macro "bq156_q4" : tactic => `(tactic| (have n0_ := Aside0.mk (Kd.R_below (by bq2_q4; exact HO_288000.out) hb); have n1_ := Aside0.mk (Kd.R_below (by bq2_q4; exact HO_292000.out) hb); have n2_ := Aside0.mk (Kd.R_below (by bq2_q4; exact HO_296000.out) hb); have n3_ := Aside0.mk (Kd.R_below (by bq2_q4; exact HO_301000.out) hb)))
local macro "bq157_q4" : tactic => `(tactic| (clear BK300; clear HB; have HO_288000 := n0_; have HO_292000 := n1_; have HO_296000 := n2_; have HO_301000 := n3_; have BK273 := n4_; have BK274 := n5_; have BK287 := n6_; have BK291 := n7_; have BK295 := n8_; have BK300 := n9_; have HB := n10_; clear n0_ n1_ n2_ n3_ n4_ n5_ n6_ n7_ n8_ n9_ n10_; (try clear hb)))
local macro "bq158_q4" : tactic => `(tactic| (refine ⟨_, rfl, ?_⟩; have n0_ := Aside0.mk bq8_q4; have n1_ := Aside0.mk bq9_q4; have n2_ := Aside0.mk (below_step (by repeat bq7_q4) hb); clear BK273; clear BK274; clear HB; have BK273 := n0_; have BK274 := n1_; have HB := n2_; clear n0_ n1_ n2_; (try clear hb); (try clear hb2); (try clear hk); (try clear hi)))
local macro "bq159_q4" : tactic => `(tactic| (exact norm_ bq35_q4 (hCont (.slice Ao187 t318.length co187, .slice Ao188 t321.length co188, v325, gb328) _ ⟨hHeld, bq63_q4, bq62_q4, bq61_q4, bq59_q4, bq58_q4, bq57_q4, bq56_q4, (by bq1_q4; exact BK273.out), (by bq1_q4; exact BK274.out), (by bq1_q4; exact BK287.out), (by bq1_q4; exact BK291.out), (by bq1_q4; exact BK295.out), (by bq1_q4; exact BK300.out), (by bq1_q4; exact BK328.out), GW328.out, GE328.out, NB273_328.out, NB328_273.out, NB274_328.out, NB328_274.out, NB287_328.out, NB328_287.out, NB291_328.out, NB328_291.out, NB295_328.out, NB328_295.out, NB300_328.out, NB328_300.out, (by repeat bq4_q4)⟩)))
local macro "bq160_q4" : tactic => `(tactic| (clear BK273; clear BK274; clear BK287; clear BK291; clear BK295; clear BK300; clear HB; have HO_288000 := n0_; have HO_292000 := n1_; have HO_296000 := n2_; have HO_301000 := n3_))
local macro "bq161_q4" : tactic => `(tactic| (have n0_ := Aside0.mk bq8_q4; have n1_ := Aside0.mk (below_step bq21_q4 hb); have n2_ := Aside0.mk (hbox); have n3_ := Aside0.mk (bq73_q4); have n4_ := Aside0.mk (bq73_q4); have n5_ := Aside0.mk ((by rw [hg]; exact Nat.ne_of_lt bq13_q4 : gb273 ≠ gb274)); have n6_ := Aside0.mk ((by rw [hg]; exact Nat.ne_of_gt bq13_q4 : gb274 ≠ gb273)); clear BK273; clear HB; have BK273 := n0_; have HB := n1_; have BK274 := n2_; have GW274 := n3_; have GE274 := n4_; have NB273_274 := n5_))
local macro "bq162_q4" : tactic => `(tactic| (refine ⟨_, rfl, ?_⟩; have n0_ := Aside0.mk bq37_q4; have n1_ := Aside0.mk bq38_q4; have n2_ := Aside0.mk bq39_q4; have n3_ := Aside0.mk (Kd.R_reok rfl hy0 (fun k_ e_ => HO_301000.out.1 k_ e_)); have n4_ := Aside0.mk bq81_q4; have n5_ := Aside0.mk bq80_q4; have n6_ := Aside0.mk bq79_q4; have n7_ := Aside0.mk bq78_q4; have n8_ := Aside0.mk bq77_q4; have n9_ := Aside0.mk bq76_q4; have n10_ := Aside0.mk (hb); clear HO_288000; clear HO_292000; clear HO_296000))
local macro "bq163_q4" : tactic => `(tactic| (clear BK273; clear BK274; clear BK287; clear BK291; clear BK295))
local macro "bq164_q4" : tactic => `(tactic| (have n4_ := Aside0.mk (Kd.R_below (by bq2_q4; exact HO_329000.out) hb); have n5_ := Aside0.mk bq8_q4; have n6_ := Aside0.mk bq9_q4; have n7_ := Aside0.mk bq10_q4; have n8_ := Aside0.mk bq16_q4; have n9_ := Aside0.mk bq15_q4; have n10_ := Aside0.mk bq84_q4; have n11_ := Aside0.mk bq83_q4; have n12_ := Aside0.mk (below_step (by repeat bq4_q4) hb); clear HO_288000; clear HO_292000; clear HO_296000; clear HO_301000; clear HO_329000))
local macro "bq165_q4" : tactic => `(tactic| (have HB := n12_; clear n0_ n1_ n2_ n3_ n4_ n5_ n6_ n7_ n8_ n9_ n10_ n11_ n12_; (try clear hb); (try clear hb2); (try clear hk); (try clear hi)))
local macro "bq166_q4" : tactic => `(tactic| (refine goes_ Try.func11 (by kernel_rfl) rfl #[.agg #[.slice A1_0 l1_0.length c1_0]] (by rfl) rfl rfl bq5_q4 ?_))
local macro "bq167_q4" : tactic => `(tactic| (clear HB; have HO279 := n0_; have HO282 := n1_; have HO285 := n2_; have HO290 := n3_; have HO294 := n4_; have HO298 := n5_; have BK273 := n6_; have BK274 := n7_; have BK287 := n8_; have BK291 := n9_; have BK295 := n10_))
local macro "bq168_q4" : tactic => `(tactic| (exact norm_ bq35_q4 (hCont (.slice Ao37 t277.length co37, .slice Ao38 t280.length co38, v284, gb287) _ ⟨hHeld, bq107_q4, bq106_q4, bq105_q4, (by bq1_q4; exact BK273.out), (by bq1_q4; exact BK274.out), (by bq1_q4; exact BK287.out), GW287.out, GE287.out, NB273_287.out, NB287_273.out, NB274_287.out, NB287_274.out, bq6_q4⟩)))
local macro "bq169_q4" : tactic => `(tactic| (refine goes_ Try.func11 (by kernel_rfl) rfl #[.agg #[.slice A0_0 l0_0.length c0_0]] (by rfl) rfl rfl bq5_q4 ?_))
local macro "bq170_q4" : tactic => `(tactic| (have n4_ := Aside0.mk bq8_q4; have n5_ := Aside0.mk bq9_q4; have n6_ := Aside0.mk bq10_q4; have n7_ := Aside0.mk bq16_q4; have n8_ := Aside0.mk bq15_q4; have n9_ := Aside0.mk bq11_q4; have n10_ := Aside0.mk (below_step (by repeat bq3_q4) hb); clear HO_288000; clear HO_292000; clear HO_296000; clear HO_301000))
local macro "bq171_q4" : tactic => `(tactic| (exact ⟨by first | rfl | (simp [errW_none, errW_some] <;> rfl) | (simp [*, errW_none, errW_some] <;> rfl), by repeat bq3_q4⟩))
local macro "bq172_q4" : tactic => `(tactic| (clear HB; have HO_288000 := n0_; have HO_292000 := n1_; have HO_296000 := n2_; have HO_301000 := n3_))
local macro "bq173_q4" : tactic => `(tactic| (have n0_ := Aside0.mk (Kd.R_below (by bq2_q4; exact HO279.out) hb); have n1_ := Aside0.mk (Kd.R_below (by bq2_q4; exact HO282.out) hb); have n2_ := Aside0.mk (Kd.R_below (by bq2_q4; exact HO285.out) hb); have n3_ := Aside0.mk (Kd.R_below (by bq2_q4; exact HO290.out) hb)))
local macro "bq174_q4" : tactic => `(tactic| (have n0_ := Aside0.mk (below_step bq26_q4 hb); have n1_ := Aside0.mk (hbox); have n2_ := Aside0.mk (bq72_q4); have n3_ := Aside0.mk (bq72_q4); clear HB; have HB := n0_; have BK273 := n1_; have GW273 := n2_; have GE273 := n3_; clear n0_ n1_ n2_ n3_; clear hb hbox hg))
local macro "bq175_q4" : tactic => `(tactic| (have n3_ := Aside0.mk (Kd.R_below (by bq2_q4; exact HO_301000.out) hb)))
local macro "bq176_q4" : tactic => `(tactic| (have n2_ := Aside0.mk (Kd.R_below (by bq2_q4; exact HO_296000.out) hb)))
local macro "bq177_q4" : tactic => `(tactic| (have n1_ := Aside0.mk (Kd.R_below (by bq2_q4; exact HO_292000.out) hb)))
local macro "bq178_q4" : tactic => `(tactic| (have n0_ := Aside0.mk (Kd.R_below (by bq2_q4; exact HO_288000.out) hb)))
local macro "bq179_q4" : tactic => `(tactic| (have n0_ := Aside0.mk bq88_q4; have n1_ := Aside0.mk bq87_q4; have n2_ := Aside0.mk bq86_q4; have n3_ := Aside0.mk bq85_q4; have n4_ := Aside0.mk bq91_q4; have n5_ := Aside0.mk bq90_q4; have n6_ := Aside0.mk bq89_q4; have n7_ := Aside0.mk bq133_q4; have n8_ := Aside0.mk bq131_q4; have n9_ := Aside0.mk bq129_q4; have n10_ := Aside0.mk bq127_q4; have n11_ := Aside0.mk bq125_q4; have n12_ := Aside0.mk bq124_q4; have n13_ := Aside0.mk bq120_q4; have n14_ := Aside0.mk (below_step (by repeat bq4_q4) hb)))
local macro "bq180_q4" : tactic => `(tactic| (refine hK.out _ _ ⟨(blk_cell BK291.out 0).trans rfl, (blk_cell BK273.out 0).trans rfl⟩ (fun hHeld => ?_)))
local macro "bq181_q4" : tactic => `(tactic| (have n4_ := Aside0.mk (Kd.R_below (by bq2_q4; exact HO304.out) hb); have n5_ := Aside0.mk (Kd.R_below (by bq2_q4; exact HO308.out) hb); have n6_ := Aside0.mk bq8_q4; have n7_ := Aside0.mk bq9_q4; have n8_ := Aside0.mk bq10_q4; have n9_ := Aside0.mk bq19_q4; have n10_ := Aside0.mk bq24_q4; have n11_ := Aside0.mk bq11_q4; have n12_ := Aside0.mk (below_step (by repeat bq3_q4) hb); clear HO_288000; clear HO_292000; clear HO_296000; clear HO_301000; clear HO304; clear HO308))
local macro "bq182_q4" : tactic => `(tactic| (refine ⟨_, rfl, ?_⟩; have n0_ := Aside0.mk bq97_q4; have n1_ := Aside0.mk bq96_q4; have n2_ := Aside0.mk bq95_q4; have n3_ := Aside0.mk bq94_q4; have n4_ := Aside0.mk bq93_q4; have n5_ := Aside0.mk bq92_q4; have n6_ := Aside0.mk bq134_q4; have n7_ := Aside0.mk bq132_q4; have n8_ := Aside0.mk bq130_q4; have n9_ := Aside0.mk bq128_q4; have n10_ := Aside0.mk bq126_q4; have n11_ := Aside0.mk bq121_q4; have n12_ := Aside0.mk (below_step (by repeat bq3_q4) hb); clear HO279))
local macro "bq183_q4" : tactic => `(tactic| (have f4_ := f1_.symm; have f5_ := f3_.symm; clear f1_ f2_ f3_))
local macro "bq184_q4" : tactic => `(tactic| (refine pure_ (i := 6) (N := some 100) (v := ?_) (a' := ?_) #[true, true, true, true, true, true, true, false, true, false, false] rfl rfl (any_of HT_.out (by kernel_rfl)) (fun _ _ _ h => h) (Or.inl ⟨by rfl, ?_⟩) ?_ ?_))
local macro "bq185_q4" : tactic => `(tactic| (refine pure_ (i := 5) (N := some 94) (v := ?_) (a' := ?_) #[true, true, true, true, true, true, false, false, true, false, false] rfl rfl (any_of HT_.out (by kernel_rfl)) (fun _ _ _ h => h) (Or.inl ⟨by rfl, ?_⟩) ?_ ?_))
local macro "bq186_q4" : tactic => `(tactic| (refine pure_ (i := 5) (N := some 27) (v := ?_) (a' := ?_) #[true, true, true, true, true, true, false, false, true, false, false] rfl rfl (any_of HT_.out (by kernel_rfl)) (fun _ _ _ h => h) (Or.inl ⟨by rfl, ?_⟩) ?_ ?_))
local macro "bq187_q4" : tactic => `(tactic| (refine pure_ (i := 7) (N := some 101) (v := ?_) (a' := ?_) #[true, true, true, true, true, true, true, true, true, false, false] rfl rfl (any_of HT_.out (by kernel_rfl)) (fun _ _ _ h => h) (Or.inl ⟨by rfl, ?_⟩) ?_ ?_))
local macro "bq188_q4" : tactic => `(tactic| (refine pure_ (i := 6) (N := some 33) (v := ?_) (a' := ?_) #[true, true, true, true, true, true, true, false, true, false, false] rfl rfl (any_of HT_.out (by kernel_rfl)) (fun _ _ _ h => h) (Or.inl ⟨by rfl, ?_⟩) ?_ ?_))
local macro "bq189_q4" : tactic => `(tactic| (clear n0_ n1_ n2_ n3_ n4_ n5_ n6_ n7_ n8_ n9_ n10_ n11_ n12_))
local macro "bq190_q4" : tactic => `(tactic| (refine pure_ (i := 7) (N := some 34) (v := ?_) (a' := ?_) #[true, true, true, true, true, true, true, true, true, false, false] rfl rfl (any_of HT_.out (by kernel_rfl)) (fun _ _ _ h => h) (Or.inl ⟨by rfl, ?_⟩) ?_ ?_))
local macro "bq191_q4" : tactic => `(tactic| (exact ⟨by first | rfl | (simp [errW_none, errW_some] <;> rfl) | (simp [*, errW_none, errW_some] <;> rfl), by repeat bq4_q4⟩))
local macro "bq192_q4" : tactic => `(tactic| (have n11_ := Aside0.mk (below_step (by repeat bq3_q4) hb)))
local macro "bq193_q4" : tactic => `(tactic| (refine one_ (i := 4) (N := some 99) #[true, true, true, true, true, false, false, false, true, false, false] rfl rfl (one_of HT_.out (by kernel_rfl)) (by decide) (fun K hK => ?_)))
local macro "bq194_q4" : tactic => `(tactic| (refine one_ (i := 4) (N := some 32) #[true, true, true, true, true, false, false, false, true, false, false] rfl rfl (one_of HT_.out (by kernel_rfl)) (by decide) (fun K hK => ?_)))
local macro "bq195_q4" : tactic => `(tactic| ((with_reducible refine gate_dst (N := 3) rfl ?_); refine box_event ?hg (N := 3) ?hd (cs := #[.slice A1_0 l1_0.length c1_0]) (t := 24) ?hr ?_; (case hd => rfl); (case hg => rfl)))
local macro "bq196_q4" : tactic => `(tactic| ((with_reducible refine gate_dst (N := 2) rfl ?_); refine box_event ?hg (N := 2) ?hd (cs := #[.slice A0_0 l0_0.length c0_0]) (t := 24) ?hr ?_; (case hd => rfl); (case hg => rfl)))
local macro "bq197_q4" : tactic => `(tactic| (refine take_ (i := 0) (N := some 54) (v := ?_) (a' := ?_) #[true, false, false, false, false] rfl rfl (by kernel_rfl) (fun _ _ _ h => h) (Or.inl ⟨by rfl, ?_⟩) hHeld ?_ ?_))
local macro "bq198_q4" : tactic => `(tactic| (refine take_ (i := 1) (N := some 55) (v := ?_) (a' := ?_) #[true, true, false, false, false] rfl rfl (by kernel_rfl) (fun _ _ _ h => h) (Or.inl ⟨by rfl, ?_⟩) hHeld ?_ ?_))
local macro "bq199_q4" : tactic => `(tactic| (refine box_step ?hg (N := 15) ?hd (cs := #[.slice none 0 0]) (t := 26) ?hr ?_; (case hd => rfl); (case hg => rfl)))
local macro "bq200_q4" : tactic => `(tactic| (refine box_step ?hg (N := 6) ?hd (cs := #[.slice none 0 0]) (t := 26) ?hr ?_; (case hd => rfl); (case hg => rfl)))
local macro "bq201_q4" : tactic => `(tactic| (refine pure_ (i := 4) (N := some 58) (v := ?_) (a' := ?_) #[true, true, true, true, true] rfl rfl (by kernel_rfl) (fun _ _ _ h => h) (Or.inl ⟨by rfl, ?_⟩) ?_ ?_))
local macro "bq202_q4" : tactic => `(tactic| (have HO_329000 := n4_; have BK273 := n5_; have BK274 := n6_; have BK287 := n7_; have BK291 := n8_; have BK295 := n9_; have BK300 := n10_; have BK328 := n11_))
local macro "bq203_q4" : tactic => `(tactic| (refine hK.out _ _ ⟨(blk_cell BK295.out 0).trans rfl, (blk_cell BK274.out 0).trans rfl⟩ (fun hHeld => ?_)))
local macro "bq204_q4" : tactic => `(tactic| (refine goes_ Try.func17 (by kernel_rfl) rfl #[.agg #[.slice Ao187 t318.length co187], .agg #[.slice Ao188 t321.length co188]] (by rfl) rfl rfl bq5_q4 ?_))
local macro "bq205_q4" : tactic => `(tactic| (refine goes_ Try.func16 (by kernel_rfl) rfl #[.agg #[.slice Ao37 t277.length co37], .agg #[.slice Ao38 t280.length co38]] (by rfl) rfl rfl bq5_q4 ?_))
local macro "bq206_q4" : tactic => `(tactic| ((try clear hb2); (try clear hk); (try clear hi)))
local macro "bq207_q4" : tactic => `(tactic| (refine goesL_ (some 19) rfl rfl Try.func9 (by kernel_rfl) rfl #[.agg #[.slice A0_0 l0_0.length c0_0], .int .i64 1048576] rfl bq5_q4 ?_))
local macro "bq208_q4" : tactic => `(tactic| (have n12_ := Aside0.mk (below_step (by repeat bq3_q4) hb)))
local macro "bq209_q4" : tactic => `(tactic| (refine goesL_ (some 88) rfl rfl Try.func15 (by kernel_rfl) rfl #[.agg #[.slice Ao65 t316.length co65], .int .i64 1] rfl bq51_q4 ?_))
local macro "bq210_q4" : tactic => `(tactic| (clear n0_ n1_ n2_ n3_ n4_ n5_ n6_ n7_ n8_ n9_ n10_ n11_))
local macro "bq211_q4" : tactic => `(tactic| (refine goesL_ (some 113) rfl rfl Try.func15 (by kernel_rfl) rfl #[.agg #[.slice Ao65 t316.length co65], .int .i64 1] rfl bq5_q4 ?_))
local macro "bq212_q4" : tactic => `(tactic| (refine goesL_ (some 85) rfl rfl Try.func14 (by kernel_rfl) rfl #[.agg #[.slice Ao65 t296.length co65], .int .i64 1] rfl bq5_q4 ?_))
local macro "bq213_q4" : tactic => `(tactic| (clear BK273; clear BK274; clear BK287; clear BK291; clear HB; have HO279 := n0_; have HO282 := n1_; have HO285 := n2_; have HO290 := n3_; have HO294 := n4_; have BK273 := n5_; have BK274 := n6_; have BK287 := n7_; have BK291 := n8_; have HB := n9_))
local macro "bq214_q4" : tactic => `(tactic| (have n4_ := Aside0.mk (Kd.R_below (by bq2_q4; exact HO304.out) hb)))
local macro "bq215_q4" : tactic => `(tactic| (refine one_ (i := 2) (N := some 56) #[true, true, true, false, false] rfl rfl (by kernel_rfl) (by decide) (fun K hK => ?_)))
local macro "bq216_q4" : tactic => `(tactic| (refine one_ (i := 3) (N := some 57) #[true, true, true, true, false] rfl rfl (by kernel_rfl) (by decide) (fun K hK => ?_)))
local macro "bq217_q4" : tactic => `(tactic| (refine goesL_ (some 24) rfl rfl Try.func9 (by kernel_rfl) rfl #[.agg #[.slice A1_0 l1_0.length c1_0], .int .i64 t275] rfl bq5_q4 ?_; (with_reducible refine (laws_szPoset.calls _ _ l1_0 t275 t276 _ ?side1 ?side2 A10.out).mono ?_)))
local macro "bq218_q4" : tactic => `(tactic| (have HO320 := n4_; have HO323 := n5_; have HO326 := n6_; have BK273 := n7_; have BK274 := n8_; have BK287 := n9_; have BK291 := n10_; have BK295 := n11_; have BK300 := n12_; have BK328 := n13_; have HB := n14_))
local macro "bq219_q4" : tactic => `(tactic| (clear BK273; clear BK274; clear BK287; clear HB; have HO279 := n0_; have HO282 := n1_; have HO285 := n2_; have HO290 := n3_; have BK273 := n4_; have BK274 := n5_; have BK287 := n6_; have HB := n7_))
local macro "bq220_q4" : tactic => `(tactic| (clear HO_288000; clear HO_292000; clear HO_296000; clear HO_301000))
local macro "bq221_q4" : tactic => `(tactic| (refine one_ (i := 3) (N := some 98) #[true, true, true, true, false, false, false, false, true, false, false] rfl rfl (one_of HT_.out (by kernel_rfl)) (by decide) (fun K hK => ?_)))
local macro "bq222_q4" : tactic => `(tactic| (refine one_ (i := 3) (N := some 31) #[true, true, true, true, false, false, false, false, true, false, false] rfl rfl (one_of HT_.out (by kernel_rfl)) (by decide) (fun K hK => ?_)))
local macro "bq223_q4" : tactic => `(tactic| (clear HO282; clear HO285; clear HO290; clear HO294))
local macro "bq224_q4" : tactic => `(tactic| (refine one_ (i := 9) (N := none) #[true, true, true, true, true, true, true, true, true, true, false] rfl rfl (one_of HT_.out (by kernel_rfl)) (by decide) (fun K hK => ?_)))
local macro "bq225_q4" : tactic => `(tactic| (refine take_ (i := 0) (N := some 59) (v := ?_) (a' := ?_) #[true, false, false, false, false] rfl rfl (by kernel_rfl) (fun _ _ _ h => h) (Or.inl ⟨by rfl, ?_⟩) hHeld ?_ ?_))
local macro "bq226_q4" : tactic => `(tactic| (refine take_ (i := 1) (N := some 60) (v := ?_) (a' := ?_) #[true, true, false, false, false] rfl rfl (by kernel_rfl) (fun _ _ _ h => h) (Or.inl ⟨by rfl, ?_⟩) hHeld ?_ ?_))
local macro "bq227_q4" : tactic => `(tactic| (clear n0_ n1_ n2_ n3_ n4_ n5_ n6_ n7_ n8_ n9_ n10_ n11_ n12_ n13_ n14_))
local macro "bq228_q4" : tactic => `(tactic| (have BK273 := n4_; have BK274 := n5_; have BK287 := n6_; have BK291 := n7_; have BK295 := n8_; have BK300 := n9_; have HO304 := n10_; have HO308 := n11_; have HB := n12_))
local macro "bq229_q4" : tactic => `(tactic| (refine pure_ (i := 4) (N := some 63) (v := ?_) (a' := ?_) #[true, true, true, true, true] rfl rfl (by kernel_rfl) (fun _ _ _ h => h) (Or.inl ⟨by rfl, ?_⟩) ?_ ?_))
local macro "bq230_q4" : tactic => `(tactic| (refine goesL_ (some 104) rfl rfl Try.func13 (by kernel_rfl) rfl #[.agg #[.slice Ao191 t324.length co191], .agg #[.slice Ao41 t283.length co41]] rfl bq5_q4 ?_))
local macro "bq231_q4" : tactic => `(tactic| (refine goesL_ (some 47) rfl rfl Try.func13 (by kernel_rfl) rfl #[.agg #[.slice Ao65 t296.length co65], .agg #[.slice Ao41 t283.length co41]] rfl bq5_q4 ?_))
local macro "bq232_q4" : tactic => `(tactic| ((case side1 => repeat bq3_q4); (case side2 => exact Kd.R_tight rfl HO_301000.out)))
local macro "bq233_q4" : tactic => `(tactic| (have HO304 := n4_; have HO308 := n5_; have BK273 := n6_; have BK274 := n7_; have BK287 := n8_; have BK291 := n9_; have BK295 := n10_; have BK300 := n11_))
local macro "bq234_q4" : tactic => `(tactic| (have n6_ := Aside0.mk (Kd.R_lower bq68_q4 (below_size (by repeat bq4_q4)))))
local macro "bq235_q4" : tactic => `(tactic| (have NB274_273 := n6_; clear n0_ n1_ n2_ n3_ n4_ n5_ n6_; clear hb hbox hg))
local macro "bq236_q4" : tactic => `(tactic| (have H1 : (some false) = some r := by rw [if_pos rfl] at H; exact H))
local macro "bq237_q4" : tactic => `(tactic| (have n5_ := Aside0.mk (Kd.R_lower (Kd.R_new' bq12_q4 (Kd.R_lt (by bq2_q4; exact HO320.out))) (below_size (by repeat bq4_q4)))))
local macro "bq238_q4" : tactic => `(tactic| (have n5_ := Aside0.mk (Kd.R_lower (Kd.R_new' bq12_q4 (Kd.R_lt (by bq2_q4; exact HO304.out))) (below_size (by repeat bq3_q4)))))
local macro "bq239_q4" : tactic => `(tactic| (have n4_ := Aside0.mk (Kd.R_below (by bq2_q4; exact HO320.out) hb)))
local macro "bq240_q4" : tactic => `(tactic| (have n0_ := Aside0.mk (Kd.R_below (by bq2_q4; exact HO279.out) hb)))
local macro "bq241_q4" : tactic => `(tactic| (exact ⟨by first | rfl | (simp [errW_none, errW_some] <;> rfl) | (simp [*, errW_none, errW_some] <;> rfl), by repeat bq7_q4⟩))
local macro "bq242_q4" : tactic => `(tactic| (refine one_ (i := 2) (N := some 61) #[true, true, true, false, false] rfl rfl (by kernel_rfl) (by decide) (fun K hK => ?_)))
local macro "bq243_q4" : tactic => `(tactic| (refine one_ (i := 3) (N := some 62) #[true, true, true, true, false] rfl rfl (by kernel_rfl) (by decide) (fun K hK => ?_)))
local macro "bq244_q4" : tactic => `(tactic| (have n2_ := Aside0.mk (Kd.R_lower bq70_q4 (below_size bq6_q4))))
local macro "bq245_q4" : tactic => `(tactic| (clear n0_ n1_ n2_ n3_ n4_ n5_ n6_ n7_ n8_ n9_ n10_ n11_ n12_ n13_ n14_ n15_ n16_ n17_ n18_ n19_ n20_ n21_ n22_ n23_ n24_ n25_ n26_ n27_ n28_))
local macro "bq246_q4" : tactic => `(tactic| (clear n0_ n1_ n2_ n3_ n4_ n5_ n6_ n7_ n8_ n9_ n10_ n11_ n12_ n13_))
set_option hygiene true
set_option maxHeartbeats 8000000 in
set_option maxRecDepth 100000 in
theorem laws_FnExactStackOf.calls (k : Nat) (A0_0 : Option Addr) (c0_0 : Nat) (l0_0 : List Int) (A1_0 : Option Addr) (c1_0 : Nat) (l1_0 : List Int) (r : Bool) (w : World) (hr0_0 : Kd.C (Kd.int .i64) w A0_0 l0_0.length l0_0) (hc0_0 : l0_0.length ≤ c0_0) (hr1_0 : Kd.C (Kd.int .i64) w A1_0 l1_0.length l1_0) (hc1_0 : l1_0.length ≤ c1_0) (h : laws_FnExactStackOf.f k l0_0 l1_0 = some r) :
    Calls Try.prog 4 #[.agg #[.slice A0_0 l0_0.length c0_0], .agg #[.slice A1_0 l1_0.length c1_0]] w fun e w' => e = .returned (.bool r) ∧ Below w.heap.size w w' := by
  have hu24 := Try.underlying24
  have hu26 := Try.underlying26
  have HR0_0 := Aside0.mk hr0_0
  have HC0_0 := Aside0.mk hc0_0
  clear hr0_0 hc0_0
  have HR1_0 := Aside0.mk hr1_0
  have HC1_0 := Aside0.mk hc1_0
  clear hr1_0 hc1_0
  have HB := Aside0.mk (Below.refl w.heap.size w)
  have H : ((laws_szPoset.f l0_0 1048576).bind fun t275 => (if t275 < 0 then (some true) else ((laws_szPoset.f l1_0 t275).bind fun t276 => (if t276 < 0 then (some true) else ((laws_toPoset.f k l0_0).bind fun t277 => ((laws_toPoset.f k l1_0).bind fun t280 => ((spec_StackOf.f k t277 t280).bind fun bt283 => ((laws_toPoset.f k l0_0).bind fun t288 => ((laws_toPoset.f k l1_0).bind fun t292 => ((impl_StackOf.f k t288 t292).bind fun bt296 => ((laws_eqPoset.f k bt296.1 bt283.1).bind fun t301 => (if t301 = true then (laws_FnExactStackOf.j0 k bt283.2 bt296.2 (bt296.2 != bt283.2) l0_0 l1_0 bt283.1 t288 t292 bt296.1) else (laws_FnExactStackOf.j0 k bt283.2 bt296.2 true l0_0 l1_0 bt283.1 t288 t292 bt296.1))))))))))))) = some r := h
  clear h
  replace H := Option.bind_eq_some_iff.mp H
  obtain ⟨t275, A30, H⟩ := H
  replace H : (if t275 < 0 then (some true) else ((laws_szPoset.f l1_0 t275).bind fun t276 => (if t276 < 0 then (some true) else ((laws_toPoset.f k l0_0).bind fun t277 => ((laws_toPoset.f k l1_0).bind fun t280 => ((spec_StackOf.f k t277 t280).bind fun bt283 => ((laws_toPoset.f k l0_0).bind fun t288 => ((laws_toPoset.f k l1_0).bind fun t292 => ((impl_StackOf.f k t288 t292).bind fun bt296 => ((laws_eqPoset.f k bt296.1 bt283.1).bind fun t301 => (if t301 = true then (laws_FnExactStackOf.j0 k bt283.2 bt296.2 (bt296.2 != bt283.2) l0_0 l1_0 bt283.1 t288 t292 bt296.1) else (laws_FnExactStackOf.j0 k bt283.2 bt296.2 true l0_0 l1_0 bt283.1 t288 t292 bt296.1)))))))))))) = some r := H
  have A3 := Aside0.mk A30
  clear A30
  by_cases c4 : t275 < 0
  · rw [if_pos c4] at H
    have c4b0 : decide (t275 < 0) = true := decide_eq_true c4
    clear c4
    obtain rfl := Option.some.inj H
    go_enter Try.func4, Try.ntmps4
    go_wp2_with (first | (bq196_q4; bq31_q4; intro gb273 hg w5 hbox hb; bq174_q4) | (bq195_q4; bq31_q4; intro gb274 hg w6 hbox hb; bq161_q4; bq235_q4; have hnb7 := NB273_274.out; have hnc7 := NB274_273.out; have hcz8_0 : w6.cell? ⟨gb273, 0, none⟩ = some (.slice A0_0 l0_0.length c0_0) := (blk_cell BK273.out 0).trans rfl; have hfz8_0 := blk_frozen BK273.out 0) | (bq109_q4; bq207_q4; bq104_q4; bq18_q4; (case side2 => exact HC0_0.out); rintro e w9 ⟨rfl, hb⟩; bq158_q4))
    go_ret
    bq241_q4
  · rw [if_neg c4] at H
    have c4b0 : decide (t275 < 0) = false := decide_eq_false c4
    clear c4
    replace H := Option.bind_eq_some_iff.mp H
    obtain ⟨t276, A100, H⟩ := H
    replace H : (if t276 < 0 then (some true) else ((laws_toPoset.f k l0_0).bind fun t277 => ((laws_toPoset.f k l1_0).bind fun t280 => ((spec_StackOf.f k t277 t280).bind fun bt283 => ((laws_toPoset.f k l0_0).bind fun t288 => ((laws_toPoset.f k l1_0).bind fun t292 => ((impl_StackOf.f k t288 t292).bind fun bt296 => ((laws_eqPoset.f k bt296.1 bt283.1).bind fun t301 => (if t301 = true then (laws_FnExactStackOf.j0 k bt283.2 bt296.2 (bt296.2 != bt283.2) l0_0 l1_0 bt283.1 t288 t292 bt296.1) else (laws_FnExactStackOf.j0 k bt283.2 bt296.2 true l0_0 l1_0 bt283.1 t288 t292 bt296.1)))))))))) = some r := H
    have A10 := Aside0.mk A100
    clear A100
    by_cases c11 : t276 < 0
    · rw [if_pos c11] at H
      have c11b0 : decide (t276 < 0) = true := decide_eq_true c11
      clear c11
      obtain rfl := Option.some.inj H
      go_enter Try.func4, Try.ntmps4
      go_wp2_with (first | (bq196_q4; bq31_q4; intro gb273 hg w12 hbox hb; bq174_q4) | (bq195_q4; bq31_q4; intro gb274 hg w13 hbox hb; bq161_q4; bq235_q4; have hnb14 := NB273_274.out; have hnc14 := NB274_273.out; have hcz15_0 : w13.cell? ⟨gb273, 0, none⟩ = some (.slice A0_0 l0_0.length c0_0) := (blk_cell BK273.out 0).trans rfl; have hfz15_0 := blk_frozen BK273.out 0) | (bq109_q4; bq207_q4; bq104_q4; bq18_q4; (case side2 => exact HC0_0.out); rintro e w16 ⟨rfl, hb⟩; bq158_q4; have hcz17_0 : w16.cell? ⟨gb274, 0, none⟩ = some (.slice A1_0 l1_0.length c1_0) := (blk_cell BK274.out 0).trans rfl; have hfz17_0 := blk_frozen BK274.out 0) | (bq109_q4; bq217_q4; bq17_q4; (case side2 => exact HC1_0.out); rintro e w18 ⟨rfl, hb⟩; bq158_q4))
      go_ret
      bq241_q4
    · rw [if_neg c11] at H
      have c11b0 : decide (t276 < 0) = false := decide_eq_false c11
      clear c11
      replace H := Option.bind_eq_some_iff.mp H
      obtain ⟨t277, A190, H⟩ := H
      replace H : ((laws_toPoset.f k l1_0).bind fun t280 => ((spec_StackOf.f k t277 t280).bind fun bt283 => ((laws_toPoset.f k l0_0).bind fun t288 => ((laws_toPoset.f k l1_0).bind fun t292 => ((impl_StackOf.f k t288 t292).bind fun bt296 => ((laws_eqPoset.f k bt296.1 bt283.1).bind fun t301 => (if t301 = true then (laws_FnExactStackOf.j0 k bt283.2 bt296.2 (bt296.2 != bt283.2) l0_0 l1_0 bt283.1 t288 t292 bt296.1) else (laws_FnExactStackOf.j0 k bt283.2 bt296.2 true l0_0 l1_0 bt283.1 t288 t292 bt296.1)))))))) = some r := H
      have A19 := Aside0.mk A190
      clear A190
      replace H := Option.bind_eq_some_iff.mp H
      obtain ⟨t280, A200, H⟩ := H
      replace H : ((spec_StackOf.f k t277 t280).bind fun bt283 => ((laws_toPoset.f k l0_0).bind fun t288 => ((laws_toPoset.f k l1_0).bind fun t292 => ((impl_StackOf.f k t288 t292).bind fun bt296 => ((laws_eqPoset.f k bt296.1 bt283.1).bind fun t301 => (if t301 = true then (laws_FnExactStackOf.j0 k bt283.2 bt296.2 (bt296.2 != bt283.2) l0_0 l1_0 bt283.1 t288 t292 bt296.1) else (laws_FnExactStackOf.j0 k bt283.2 bt296.2 true l0_0 l1_0 bt283.1 t288 t292 bt296.1))))))) = some r := H
      have A20 := Aside0.mk A200
      clear A200
      replace H := Option.bind_eq_some_iff.mp H
      obtain ⟨⟨t283, t286⟩, A210, H⟩ := H
      replace H : ((laws_toPoset.f k l0_0).bind fun t288 => ((laws_toPoset.f k l1_0).bind fun t292 => ((impl_StackOf.f k t288 t292).bind fun bt296 => ((laws_eqPoset.f k bt296.1 t283).bind fun t301 => (if t301 = true then (laws_FnExactStackOf.j0 k t286 bt296.2 (bt296.2 != t286) l0_0 l1_0 t283 t288 t292 bt296.1) else (laws_FnExactStackOf.j0 k t286 bt296.2 true l0_0 l1_0 t283 t288 t292 bt296.1)))))) = some r := H
      have A21 := Aside0.mk A210
      clear A210
      replace H := Option.bind_eq_some_iff.mp H
      obtain ⟨t288, A220, H⟩ := H
      replace H : ((laws_toPoset.f k l1_0).bind fun t292 => ((impl_StackOf.f k t288 t292).bind fun bt296 => ((laws_eqPoset.f k bt296.1 t283).bind fun t301 => (if t301 = true then (laws_FnExactStackOf.j0 k t286 bt296.2 (bt296.2 != t286) l0_0 l1_0 t283 t288 t292 bt296.1) else (laws_FnExactStackOf.j0 k t286 bt296.2 true l0_0 l1_0 t283 t288 t292 bt296.1))))) = some r := H
      have A22 := Aside0.mk A220
      clear A220
      replace H := Option.bind_eq_some_iff.mp H
      obtain ⟨t292, A230, H⟩ := H
      replace H : ((impl_StackOf.f k t288 t292).bind fun bt296 => ((laws_eqPoset.f k bt296.1 t283).bind fun t301 => (if t301 = true then (laws_FnExactStackOf.j0 k t286 bt296.2 (bt296.2 != t286) l0_0 l1_0 t283 t288 t292 bt296.1) else (laws_FnExactStackOf.j0 k t286 bt296.2 true l0_0 l1_0 t283 t288 t292 bt296.1)))) = some r := H
      have A23 := Aside0.mk A230
      clear A230
      replace H := Option.bind_eq_some_iff.mp H
      obtain ⟨⟨t296, t299⟩, A240, H⟩ := H
      replace H : ((laws_eqPoset.f k t296 t283).bind fun t301 => (if t301 = true then (laws_FnExactStackOf.j0 k t286 t299 (t299 != t286) l0_0 l1_0 t283 t288 t292 t296) else (laws_FnExactStackOf.j0 k t286 t299 true l0_0 l1_0 t283 t288 t292 t296))) = some r := H
      have A24 := Aside0.mk A240
      clear A240
      have HC25 := Aside0.mk H
      clear H
      go_enter Try.func4, Try.ntmps4
      try go_wp2_with (first | (bq196_q4; bq31_q4; intro gb273 hg w26 hbox hb; bq174_q4) | (bq195_q4; bq31_q4; intro gb274 hg w27 hbox hb; bq161_q4; bq235_q4; have hnb28 := NB273_274.out; have hnc28 := NB274_273.out; have hcz29_0 : w27.cell? ⟨gb273, 0, none⟩ = some (.slice A0_0 l0_0.length c0_0) := (blk_cell BK273.out 0).trans rfl; have hfz29_0 := blk_frozen BK273.out 0) | (bq109_q4; bq207_q4; bq104_q4; bq18_q4; (case side2 => exact HC0_0.out); rintro e w30 ⟨rfl, hb⟩; bq158_q4; have hcz31_0 : w30.cell? ⟨gb274, 0, none⟩ = some (.slice A1_0 l1_0.length c1_0) := (blk_cell BK274.out 0).trans rfl; have hfz31_0 := blk_frozen BK274.out 0) | (bq109_q4; bq217_q4; bq17_q4; (case side2 => exact HC1_0.out); rintro e w32 ⟨rfl, hb⟩; bq158_q4))
      have n0_ := Aside0.mk (blk_drew BK273.out)
      have n1_ := Aside0.mk (blk_drew BK274.out)
      have n2_ := Aside0.mk (below_drew1 HB.out)
      clear BK273
      clear BK274
      clear HB
      have BK273 := n0_
      have BK274 := n1_
      have HB := n2_
      clear n0_ n1_ n2_
      refine start_ (n := 11) (S := fun w' => w'.cell? ⟨gb273, 0, none⟩ = some (.slice A0_0 l0_0.length c0_0) ∧ w'.cell? ⟨gb274, 0, none⟩ = some (.slice A1_0 l1_0.length c1_0)) (ds := []) #[false, false, false, false, false, false, false, false, false, false, false] (by kernel_rfl) rfl rfl ⟨(blk_cell BK273.out 0).trans rfl, (blk_cell BK274.out 0).trans rfl⟩ (fun hHeld => ?_); refine with_tabW laws_FnExactStackOf.tab8 laws_FnExactStackOf.bits8 (fun HT_ HW_ => ?_)
      generalize w32.drew = w33 at BK273 BK274 HB hHeld ⊢
      refine take_ (i := 0) (N := some 28) (v := ?_) (a' := ?_) #[true, false, false, false, false, false, false, false, false, false, false] rfl rfl (take_ofW HT_.out HW_.out (by kernel_rfl)) (fun _ _ _ h => h) (Or.inl ⟨by rfl, ?_⟩) hHeld ?_ ?_
      rotate_left
      · rintro w' ⟨s0, s1⟩
        go_simp
        with_reducible rfl
      rotate_left
      · bq154_q4
        rfl
      refine take_ (i := 2) (N := some 30) (v := ?_) (a' := ?_) #[true, false, true, false, false, false, false, false, false, false, false] rfl rfl (take_ofW HT_.out HW_.out (by kernel_rfl)) (fun _ _ _ h => h) (Or.inl ⟨by rfl, ?_⟩) hHeld ?_ ?_
      rotate_left
      · rintro w' ⟨s0, s1⟩
        go_simp
        with_reducible rfl
      rotate_left
      · bq154_q4
        rfl
      refine join_ (σ := Value × Value × Value × Nat) 2 #[true, true, true, true, true, true, true, true, true, false, false] (fun s_ => [(29, .agg #[s_.1]), (31, .agg #[s_.2.1]), (32, .tuple #[.agg #[s_.2.2.1], .bool t286]), (6, .pointer (some ⟨s_.2.2.2, 0, none⟩)), (27, .tuple #[.agg #[s_.2.2.1], .bool t286]), (33, .agg #[s_.2.2.1]), (34, .bool t286)]) (fun s_ w' => (w'.cell? ⟨gb273, 0, none⟩ = some (.slice A0_0 l0_0.length c0_0) ∧ w'.cell? ⟨gb274, 0, none⟩ = some (.slice A1_0 l1_0.length c1_0)) ∧ (Kd.R (Kd.int .i64) 3 w' w.heap.size (fun k_ => some k_ ≠ (s_.2.1 : Value).ownBlock ∧ some k_ ≠ (s_.2.2.1 : Value).ownBlock) s_.1 t277) ∧ (Kd.R (Kd.int .i64) 3 w' w.heap.size (fun k_ => some k_ ≠ (s_.1 : Value).ownBlock ∧ some k_ ≠ (s_.2.2.1 : Value).ownBlock) s_.2.1 t280) ∧ (Kd.R (Kd.int .i64) 3 w' w.heap.size (fun k_ => some k_ ≠ (s_.1 : Value).ownBlock ∧ some k_ ≠ (s_.2.1 : Value).ownBlock) s_.2.2.1 t283) ∧ (w'.heap[gb273]? = some (.cells #[.slice A0_0 l0_0.length c0_0] 24 (0, 0))) ∧ (w'.heap[gb274]? = some (.cells #[.slice A1_0 l1_0.length c1_0] 24 (0, 0))) ∧ (w'.heap[s_.2.2.2]? = some (.cells #[.slice none 0 0] 26 (0, 0))) ∧ (w.heap.size ≤ s_.2.2.2) ∧ (w.heap.size ≤ s_.2.2.2) ∧ (gb273 ≠ s_.2.2.2) ∧ (s_.2.2.2 ≠ gb273) ∧ (gb274 ≠ s_.2.2.2) ∧ (s_.2.2.2 ≠ gb274) ∧ (Below w.heap.size w w')) ?_ ?_
      rotate_left
      · intro hCont
        refine two_ (i := 1) (j := 8) (Ni := some 29) (Nj := some 6) #[true, true, true, false, false, false, false, false, false, false, false] #[true, false, true, false, false, false, false, false, true, false, false] rfl rfl rfl rfl (two_of HT_.out (by kernel_rfl)) (by decide) (by decide) (fun K hK => ?_) (fun K hK => ?_)
        · skip
          bq169_q4
          with_reducible refine (laws_toPoset.calls k _ _ l0_0 t277 _ ?side1 ?side2 A19.out).mono ?_
          bq18_q4
          (case side2 => exact HC0_0.out)
          rintro e w34 ⟨v278, rfl, ho0, hb⟩
          refine ⟨_, rfl, ?_⟩
          have n0_ := Aside0.mk (Kd.R_lower ho0 (below_size (by repeat bq7_q4)))
          have n1_ := Aside0.mk bq8_q4
          have n2_ := Aside0.mk bq9_q4
          have n3_ := Aside0.mk (below_step (by repeat bq7_q4) hb)
          clear BK273
          clear BK274
          clear HB
          have HO279 := n0_
          have BK273 := n1_
          have BK274 := n2_
          have HB := n3_
          clear n0_ n1_ n2_ n3_
          (try clear hb)
          (try clear hb2)
          (try clear hk)
          (try clear hi)
          (try clear ho0)
          bq155_q4
          clear hK K
          refine norm_ (a' := ?_) ?_ ?_
          rotate_left
          · show Act.put _ (some 29) _ = _
            bq154_q4
            rfl
          refine two_ (i := 3) (j := 8) (Ni := some 31) (Nj := some 6) #[true, true, true, true, false, false, false, false, false, false, false] #[true, true, true, false, false, false, false, false, true, false, false] rfl rfl rfl rfl (two_of HT_.out (by kernel_rfl)) (by decide) (by decide) (fun K hK => ?_) (fun K hK => ?_)
          · skip
            bq166_q4
            with_reducible refine (laws_toPoset.calls k _ _ l1_0 t280 _ ?side1 ?side2 A20.out).mono ?_
            bq17_q4
            (case side2 => exact HC1_0.out)
            rintro e w35 ⟨v281, rfl, ho0, hb⟩
            refine ⟨_, rfl, ?_⟩
            have n0_ := Aside0.mk bq67_q4
            have n1_ := Aside0.mk (Kd.R_lower (Kd.R_new' ho0 (Kd.R_lt (by bq2_q4; exact HO279.out))) (below_size (by repeat bq7_q4)))
            have n2_ := Aside0.mk bq8_q4
            have n3_ := Aside0.mk bq9_q4
            have n4_ := Aside0.mk (below_step (by repeat bq7_q4) hb)
            clear HO279
            clear BK273
            clear BK274
            clear HB
            have HO279 := n0_
            have HO282 := n1_
            have BK273 := n2_
            have BK274 := n3_
            have HB := n4_
            clear n0_ n1_ n2_ n3_ n4_
            (try clear hb)
            (try clear hb2)
            (try clear hk)
            (try clear hi)
            (try clear ho0)
            obtain ⟨Ao36, co36, eo36⟩ := Kd.R_slice HO279.out
            (first | subst eo36 | (injection eo36 with f1_ f2_ f3_; bq183_q4; subst f4_; subst f5_))
            obtain ⟨Ao37, co37, eo37⟩ := Kd.R_slice HO282.out
            bq53_q4
            bq155_q4
            clear hK K
            refine norm_ (a' := ?_) ?_ ?_
            rotate_left
            · show Act.put _ (some 31) _ = _
              bq154_q4
              rfl
            refine two_ (i := 4) (j := 8) (Ni := some 32) (Nj := some 6) #[true, true, true, true, true, false, false, false, false, false, false] #[true, true, true, true, false, false, false, false, true, false, false] rfl rfl rfl rfl (two_of HT_.out (by kernel_rfl)) (by decide) (by decide) (fun K hK => ?_) (fun K hK => ?_)
            · skip
              refine goes_ Try.func16 (by kernel_rfl) rfl #[.agg #[.slice Ao36 t277.length co36], .agg #[.slice Ao37 t280.length co37]] (by rfl) rfl rfl bq5_q4 ?_
              with_reducible refine (spec_StackOf.calls k _ _ t277 _ _ t280 t283 t286 _ ?side1 ?side2 ?side3 ?side4 A21.out).mono ?_
              bq46_q4
              (case side2 => exact (Kd.R_reads' HO279.out).2.1)
              bq44_q4
              (case side4 => exact (Kd.R_reads' HO282.out).2.1)
              rintro e w38 ⟨v284, rfl, ho0, hb⟩
              refine ⟨_, rfl, ?_⟩
              have n0_ := Aside0.mk bq67_q4
              have n1_ := Aside0.mk bq123_q4
              have n2_ := Aside0.mk (Kd.R_lower bq70_q4 (below_size (by repeat bq7_q4)))
              have n3_ := Aside0.mk bq8_q4
              have n4_ := Aside0.mk bq9_q4
              have n5_ := Aside0.mk (below_step (by repeat bq7_q4) hb)
              clear HO279
              clear HO282
              clear BK273
              clear BK274
              clear HB
              have HO279 := n0_
              have HO282 := n1_
              have HO285 := n2_
              have BK273 := n3_
              have BK274 := n4_
              have HB := n5_
              clear n0_ n1_ n2_ n3_ n4_ n5_
              (try clear hb)
              (try clear hb2)
              (try clear hk)
              (try clear hi)
              (try clear ho0)
              bq155_q4
              clear hK K
              refine norm_ (a' := ?_) ?_ ?_
              rotate_left
              · show Act.put _ (some 32) _ = _
                bq154_q4
                rfl
              refine pure_ (i := 5) (N := some 27) (v := ?_) (a' := ?_) #[true, true, true, true, true, true, false, false, false, false, false] rfl rfl (any_of HT_.out (by kernel_rfl)) (fun _ _ _ h => h) (Or.inl ⟨by rfl, ?_⟩) ?_ ?_
              rotate_left
              · intro w'
                go_simp
                with_reducible rfl
              rotate_left
              · bq154_q4
                rfl
              refine pure_ (i := 6) (N := some 33) (v := ?_) (a' := ?_) #[true, true, true, true, true, true, true, false, false, false, false] rfl rfl (any_of HT_.out (by kernel_rfl)) (fun _ _ _ h => h) (Or.inl ⟨by rfl, ?_⟩) ?_ ?_
              rotate_left
              · intro w'
                go_simp
                with_reducible rfl
              rotate_left
              · bq154_q4
                rfl
              refine pure_ (i := 7) (N := some 34) (v := ?_) (a' := ?_) #[true, true, true, true, true, true, true, true, false, false, false] rfl rfl (any_of HT_.out (by kernel_rfl)) (fun _ _ _ h => h) (Or.inl ⟨by rfl, ?_⟩) ?_ ?_
              rotate_left
              · intro w'
                go_simp
                with_reducible rfl
              rotate_left
              · bq154_q4
                rfl
              refine one_ (i := 8) (N := some 6) #[true, true, true, true, true, true, true, true, true, false, false] rfl rfl (one_of HT_.out (by kernel_rfl)) (by decide) (fun K hK => ?_)
              bq200_q4; bq31_q4
              intro gb287 hg w39 hbox hb
              bq240_q4
              have n1_ := Aside0.mk (Kd.R_below (by bq2_q4; exact HO282.out) hb)
              have n2_ := Aside0.mk (Kd.R_below (by bq2_q4; exact HO285.out) hb)
              have n3_ := Aside0.mk bq8_q4
              have n4_ := Aside0.mk bq9_q4
              have n5_ := Aside0.mk (below_step (by repeat bq7_q4) hb)
              have n6_ := Aside0.mk (hbox)
              have n7_ := Aside0.mk (bq47_q4)
              have n8_ := Aside0.mk (bq47_q4)
              have n9_ := Aside0.mk (bq142_q4)
              have n10_ := Aside0.mk (bq150_q4)
              have n11_ := Aside0.mk (bq140_q4)
              have n12_ := Aside0.mk (bq148_q4)
              clear HO279
              clear HO282
              clear HO285
              clear BK273
              clear BK274
              clear HB
              have HO279 := n0_
              have HO282 := n1_
              have HO285 := n2_
              have BK273 := n3_
              have BK274 := n4_
              have HB := n5_
              have BK287 := n6_
              have GW287 := n7_
              have GE287 := n8_
              have NB273_287 := n9_
              have NB287_273 := n10_
              have NB274_287 := n11_
              have NB287_274 := n12_
              bq189_q4
              clear hb hbox hg
              bq155_q4
              clear hK K
              refine norm_ (a' := ?_) ?_ ?_
              rotate_left
              · show Act.put _ (some 6) _ = _
                bq154_q4
                rfl
              exact norm_ bq35_q4 (hCont (.slice Ao36 t277.length co36, .slice Ao37 t280.length co37, v284, gb287) _ ⟨hHeld, bq107_q4, bq106_q4, bq105_q4, (by bq1_q4; exact BK273.out), (by bq1_q4; exact BK274.out), (by bq1_q4; exact BK287.out), GW287.out, GE287.out, NB273_287.out, NB287_273.out, NB274_287.out, NB287_274.out, bq6_q4⟩)
            · skip
              bq200_q4; bq31_q4
              intro gb287 hg w36 hbox hb
              bq240_q4
              have n1_ := Aside0.mk (Kd.R_below (by bq2_q4; exact HO282.out) hb)
              have n2_ := Aside0.mk bq8_q4
              have n3_ := Aside0.mk bq9_q4
              have n4_ := Aside0.mk (below_step (by repeat bq7_q4) hb)
              have n5_ := Aside0.mk (hbox)
              have n6_ := Aside0.mk (bq47_q4)
              have n7_ := Aside0.mk (bq47_q4)
              have n8_ := Aside0.mk (bq142_q4)
              have n9_ := Aside0.mk (bq150_q4)
              have n10_ := Aside0.mk (bq140_q4)
              have n11_ := Aside0.mk (bq148_q4)
              clear HO279
              clear HO282
              clear BK273
              clear BK274
              clear HB
              have HO279 := n0_
              have HO282 := n1_
              have BK273 := n2_
              have BK274 := n3_
              have HB := n4_
              have BK287 := n5_
              have GW287 := n6_
              have GE287 := n7_
              have NB273_287 := n8_
              have NB287_273 := n9_
              have NB274_287 := n10_
              have NB287_274 := n11_
              bq210_q4
              clear hb hbox hg
              obtain ⟨Ao37, co37, eo37⟩ := Kd.R_slice HO279.out
              bq53_q4
              obtain ⟨Ao38, co38, eo38⟩ := Kd.R_slice HO282.out
              bq74_q4
              bq155_q4
              clear hK K
              refine norm_ (a' := ?_) ?_ ?_
              rotate_left
              · show Act.put _ (some 6) _ = _
                bq154_q4
                rfl
              bq194_q4
              bq205_q4
              with_reducible refine (spec_StackOf.calls k _ _ t277 _ _ t280 t283 t286 _ ?side1 ?side2 ?side3 ?side4 A21.out).mono ?_
              bq46_q4
              (case side2 => exact (Kd.R_reads' HO279.out).2.1)
              bq44_q4
              (case side4 => exact (Kd.R_reads' HO282.out).2.1)
              rintro e w39 ⟨v284, rfl, ho0, hb⟩
              refine ⟨_, rfl, ?_⟩
              have n0_ := Aside0.mk bq67_q4
              have n1_ := Aside0.mk bq123_q4
              bq244_q4
              have n3_ := Aside0.mk bq8_q4
              have n4_ := Aside0.mk bq9_q4
              have n5_ := Aside0.mk bq50_q4
              have n6_ := Aside0.mk (below_step bq6_q4 hb)
              clear HO279
              clear HO282
              clear BK273
              clear BK274
              clear BK287
              clear HB
              have HO279 := n0_
              have HO282 := n1_
              have HO285 := n2_
              have BK273 := n3_
              have BK274 := n4_
              have BK287 := n5_
              have HB := n6_
              clear n0_ n1_ n2_ n3_ n4_ n5_ n6_
              (try clear hb)
              (try clear hb2)
              (try clear hk)
              (try clear hi)
              (try clear ho0)
              bq155_q4
              clear hK K
              refine norm_ (a' := ?_) ?_ ?_
              rotate_left
              · show Act.put _ (some 32) _ = _
                bq154_q4
                rfl
              bq186_q4
              rotate_left
              · intro w'
                go_simp
                with_reducible rfl
              rotate_left
              · bq154_q4
                rfl
              bq188_q4
              rotate_left
              · intro w'
                go_simp
                with_reducible rfl
              rotate_left
              · bq154_q4
                rfl
              bq190_q4
              rotate_left
              · intro w'
                go_simp
                with_reducible rfl
              rotate_left
              · bq154_q4
                rfl
              bq168_q4
          · skip
            bq200_q4; bq31_q4
            intro gb287 hg w35 hbox hb
            bq240_q4
            have n1_ := Aside0.mk bq8_q4
            have n2_ := Aside0.mk bq9_q4
            have n3_ := Aside0.mk (below_step (by repeat bq7_q4) hb)
            have n4_ := Aside0.mk (hbox)
            have n5_ := Aside0.mk (bq47_q4)
            have n6_ := Aside0.mk (bq47_q4)
            have n7_ := Aside0.mk (bq142_q4)
            have n8_ := Aside0.mk (bq150_q4)
            have n9_ := Aside0.mk (bq140_q4)
            have n10_ := Aside0.mk (bq148_q4)
            clear HO279
            clear BK273
            clear BK274
            clear HB
            have HO279 := n0_
            have BK273 := n1_
            have BK274 := n2_
            have HB := n3_
            have BK287 := n4_
            have GW287 := n5_
            have GE287 := n6_
            have NB273_287 := n7_
            have NB287_273 := n8_
            have NB274_287 := n9_
            have NB287_274 := n10_
            clear n0_ n1_ n2_ n3_ n4_ n5_ n6_ n7_ n8_ n9_ n10_
            clear hb hbox hg
            bq155_q4
            clear hK K
            refine norm_ (a' := ?_) ?_ ?_
            rotate_left
            · show Act.put _ (some 6) _ = _
              bq154_q4
              rfl
            bq222_q4
            bq166_q4
            with_reducible refine (laws_toPoset.calls k _ _ l1_0 t280 _ ?side1 ?side2 A20.out).mono ?_
            bq17_q4
            (case side2 => exact HC1_0.out)
            rintro e w36 ⟨v281, rfl, ho0, hb⟩
            refine ⟨_, rfl, ?_⟩
            have n0_ := Aside0.mk bq67_q4
            have n1_ := Aside0.mk (Kd.R_lower (Kd.R_new' ho0 (Kd.R_lt (by bq2_q4; exact HO279.out))) (below_size bq6_q4))
            have n2_ := Aside0.mk bq8_q4
            have n3_ := Aside0.mk bq9_q4
            have n4_ := Aside0.mk bq50_q4
            have n5_ := Aside0.mk (below_step bq6_q4 hb)
            clear HO279
            clear BK273
            clear BK274
            clear BK287
            clear HB
            have HO279 := n0_
            have HO282 := n1_
            have BK273 := n2_
            have BK274 := n3_
            have BK287 := n4_
            have HB := n5_
            clear n0_ n1_ n2_ n3_ n4_ n5_
            (try clear hb)
            (try clear hb2)
            (try clear hk)
            (try clear hi)
            (try clear ho0)
            obtain ⟨Ao37, co37, eo37⟩ := Kd.R_slice HO279.out
            bq53_q4
            obtain ⟨Ao38, co38, eo38⟩ := Kd.R_slice HO282.out
            bq74_q4
            bq155_q4
            clear hK K
            refine norm_ (a' := ?_) ?_ ?_
            rotate_left
            · show Act.put _ (some 31) _ = _
              bq154_q4
              rfl
            bq194_q4
            bq205_q4
            with_reducible refine (spec_StackOf.calls k _ _ t277 _ _ t280 t283 t286 _ ?side1 ?side2 ?side3 ?side4 A21.out).mono ?_
            bq46_q4
            (case side2 => exact (Kd.R_reads' HO279.out).2.1)
            bq44_q4
            (case side4 => exact (Kd.R_reads' HO282.out).2.1)
            rintro e w39 ⟨v284, rfl, ho0, hb⟩
            refine ⟨_, rfl, ?_⟩
            have n0_ := Aside0.mk bq67_q4
            have n1_ := Aside0.mk bq123_q4
            bq244_q4
            have n3_ := Aside0.mk bq8_q4
            have n4_ := Aside0.mk bq9_q4
            have n5_ := Aside0.mk bq50_q4
            have n6_ := Aside0.mk (below_step bq6_q4 hb)
            clear HO279
            clear HO282
            clear BK273
            clear BK274
            clear BK287
            clear HB
            have HO279 := n0_
            have HO282 := n1_
            have HO285 := n2_
            have BK273 := n3_
            have BK274 := n4_
            have BK287 := n5_
            have HB := n6_
            clear n0_ n1_ n2_ n3_ n4_ n5_ n6_
            (try clear hb)
            (try clear hb2)
            (try clear hk)
            (try clear hi)
            (try clear ho0)
            bq155_q4
            clear hK K
            refine norm_ (a' := ?_) ?_ ?_
            rotate_left
            · show Act.put _ (some 32) _ = _
              bq154_q4
              rfl
            bq186_q4
            rotate_left
            · intro w'
              go_simp
              with_reducible rfl
            rotate_left
            · bq154_q4
              rfl
            bq188_q4
            rotate_left
            · intro w'
              go_simp
              with_reducible rfl
            rotate_left
            · bq154_q4
              rfl
            bq190_q4
            rotate_left
            · intro w'
              go_simp
              with_reducible rfl
            rotate_left
            · bq154_q4
              rfl
            bq168_q4
        · skip
          bq200_q4; bq31_q4
          intro gb287 hg w34 hbox hb
          have n0_ := Aside0.mk bq8_q4
          have n1_ := Aside0.mk bq9_q4
          have n2_ := Aside0.mk (below_step (by repeat bq7_q4) hb)
          have n3_ := Aside0.mk (hbox)
          have n4_ := Aside0.mk (bq47_q4)
          have n5_ := Aside0.mk (bq47_q4)
          have n6_ := Aside0.mk (bq142_q4)
          have n7_ := Aside0.mk (bq150_q4)
          have n8_ := Aside0.mk (bq140_q4)
          have n9_ := Aside0.mk (bq148_q4)
          clear BK273
          clear BK274
          clear HB
          have BK273 := n0_
          have BK274 := n1_
          have HB := n2_
          have BK287 := n3_
          have GW287 := n4_
          have GE287 := n5_
          have NB273_287 := n6_
          have NB287_273 := n7_
          have NB274_287 := n8_
          have NB287_274 := n9_
          clear n0_ n1_ n2_ n3_ n4_ n5_ n6_ n7_ n8_ n9_
          clear hb hbox hg
          bq155_q4
          clear hK K
          refine norm_ (a' := ?_) ?_ ?_
          rotate_left
          · show Act.put _ (some 6) _ = _
            bq154_q4
            rfl
          refine one_ (i := 1) (N := some 29) #[true, true, true, false, false, false, false, false, true, false, false] rfl rfl (one_of HT_.out (by kernel_rfl)) (by decide) (fun K hK => ?_)
          bq169_q4
          with_reducible refine (laws_toPoset.calls k _ _ l0_0 t277 _ ?side1 ?side2 A19.out).mono ?_
          bq18_q4
          (case side2 => exact HC0_0.out)
          rintro e w35 ⟨v278, rfl, ho0, hb⟩
          refine ⟨_, rfl, ?_⟩
          have n0_ := Aside0.mk (Kd.R_lower ho0 (below_size bq6_q4))
          have n1_ := Aside0.mk bq8_q4
          have n2_ := Aside0.mk bq9_q4
          have n3_ := Aside0.mk bq50_q4
          have n4_ := Aside0.mk (below_step bq6_q4 hb)
          clear BK273
          clear BK274
          clear BK287
          clear HB
          have HO279 := n0_
          have BK273 := n1_
          have BK274 := n2_
          have BK287 := n3_
          have HB := n4_
          clear n0_ n1_ n2_ n3_ n4_
          (try clear hb)
          (try clear hb2)
          (try clear hk)
          (try clear hi)
          (try clear ho0)
          bq155_q4
          clear hK K
          refine norm_ (a' := ?_) ?_ ?_
          rotate_left
          · show Act.put _ (some 29) _ = _
            bq154_q4
            rfl
          bq222_q4
          bq166_q4
          with_reducible refine (laws_toPoset.calls k _ _ l1_0 t280 _ ?side1 ?side2 A20.out).mono ?_
          bq17_q4
          (case side2 => exact HC1_0.out)
          rintro e w36 ⟨v281, rfl, ho0, hb⟩
          refine ⟨_, rfl, ?_⟩
          have n0_ := Aside0.mk bq67_q4
          have n1_ := Aside0.mk (Kd.R_lower (Kd.R_new' ho0 (Kd.R_lt (by bq2_q4; exact HO279.out))) (below_size bq6_q4))
          have n2_ := Aside0.mk bq8_q4
          have n3_ := Aside0.mk bq9_q4
          have n4_ := Aside0.mk bq50_q4
          have n5_ := Aside0.mk (below_step bq6_q4 hb)
          clear HO279
          clear BK273
          clear BK274
          clear BK287
          clear HB
          have HO279 := n0_
          have HO282 := n1_
          have BK273 := n2_
          have BK274 := n3_
          have BK287 := n4_
          have HB := n5_
          clear n0_ n1_ n2_ n3_ n4_ n5_
          (try clear hb)
          (try clear hb2)
          (try clear hk)
          (try clear hi)
          (try clear ho0)
          obtain ⟨Ao37, co37, eo37⟩ := Kd.R_slice HO279.out
          bq53_q4
          obtain ⟨Ao38, co38, eo38⟩ := Kd.R_slice HO282.out
          bq74_q4
          bq155_q4
          clear hK K
          refine norm_ (a' := ?_) ?_ ?_
          rotate_left
          · show Act.put _ (some 31) _ = _
            bq154_q4
            rfl
          bq194_q4
          bq205_q4
          with_reducible refine (spec_StackOf.calls k _ _ t277 _ _ t280 t283 t286 _ ?side1 ?side2 ?side3 ?side4 A21.out).mono ?_
          bq46_q4
          (case side2 => exact (Kd.R_reads' HO279.out).2.1)
          bq44_q4
          (case side4 => exact (Kd.R_reads' HO282.out).2.1)
          rintro e w39 ⟨v284, rfl, ho0, hb⟩
          refine ⟨_, rfl, ?_⟩
          have n0_ := Aside0.mk bq67_q4
          have n1_ := Aside0.mk bq123_q4
          bq244_q4
          have n3_ := Aside0.mk bq8_q4
          have n4_ := Aside0.mk bq9_q4
          have n5_ := Aside0.mk bq50_q4
          have n6_ := Aside0.mk (below_step bq6_q4 hb)
          clear HO279
          clear HO282
          clear BK273
          clear BK274
          clear BK287
          clear HB
          have HO279 := n0_
          have HO282 := n1_
          have HO285 := n2_
          have BK273 := n3_
          have BK274 := n4_
          have BK287 := n5_
          have HB := n6_
          clear n0_ n1_ n2_ n3_ n4_ n5_ n6_
          (try clear hb)
          (try clear hb2)
          (try clear hk)
          (try clear hi)
          (try clear ho0)
          bq155_q4
          clear hK K
          refine norm_ (a' := ?_) ?_ ?_
          rotate_left
          · show Act.put _ (some 32) _ = _
            bq154_q4
            rfl
          bq186_q4
          rotate_left
          · intro w'
            go_simp
            with_reducible rfl
          rotate_left
          · bq154_q4
            rfl
          bq188_q4
          rotate_left
          · intro w'
            go_simp
            with_reducible rfl
          rotate_left
          · bq154_q4
            rfl
          bq190_q4
          rotate_left
          · intro w'
            go_simp
            with_reducible rfl
          rotate_left
          · bq154_q4
            rfl
          bq168_q4
      rintro ⟨v278, v281, v284, gb287⟩ w40 ⟨hS_, h0_, h1_, h2_, h3_, h4_, h5_, h6_, h7_, h8_, h9_, h10_, h11_, h12_⟩
      have n0_ : Aside0 (Kd.R (Kd.int .i64) 3 w40 w.heap.size (fun k_ => some k_ ≠ (v281 : Value).ownBlock ∧ some k_ ≠ (v284 : Value).ownBlock) v278 t277) := ⟨h0_⟩
      have n1_ : Aside0 (Kd.R (Kd.int .i64) 3 w40 w.heap.size (fun k_ => some k_ ≠ (v278 : Value).ownBlock ∧ some k_ ≠ (v284 : Value).ownBlock) v281 t280) := ⟨h1_⟩
      have n2_ : Aside0 (Kd.R (Kd.int .i64) 3 w40 w.heap.size (fun k_ => some k_ ≠ (v278 : Value).ownBlock ∧ some k_ ≠ (v281 : Value).ownBlock) v284 t283) := ⟨h2_⟩
      have n3_ : Aside0 (w40.heap[gb273]? = some (.cells #[.slice A0_0 l0_0.length c0_0] 24 (0, 0))) := ⟨h3_⟩
      have n4_ : Aside0 (w40.heap[gb274]? = some (.cells #[.slice A1_0 l1_0.length c1_0] 24 (0, 0))) := ⟨h4_⟩
      have n5_ : Aside0 (w40.heap[gb287]? = some (.cells #[.slice none 0 0] 26 (0, 0))) := ⟨h5_⟩
      have n6_ : Aside0 (w.heap.size ≤ gb287) := ⟨h6_⟩
      have n7_ : Aside0 (w.heap.size ≤ gb287) := ⟨h7_⟩
      have n8_ : Aside0 (gb273 ≠ gb287) := ⟨h8_⟩
      have n9_ : Aside0 (gb287 ≠ gb273) := ⟨h9_⟩
      have n10_ : Aside0 (gb274 ≠ gb287) := ⟨h10_⟩
      have n11_ : Aside0 (gb287 ≠ gb274) := ⟨h11_⟩
      have n12_ : Aside0 (Below w.heap.size w w40) := ⟨h12_⟩
      clear BK273
      clear BK274
      clear HB
      clear h0_ h1_ h2_ h3_ h4_ h5_ h6_ h7_ h8_ h9_ h10_ h11_ h12_
      have HO279 := n0_
      have HO282 := n1_
      have HO285 := n2_
      have BK273 := n3_
      have BK274 := n4_
      have BK287 := n5_
      have GW287 := n6_
      have GE287 := n7_
      have NB273_287 := n8_
      have NB287_273 := n9_
      have NB274_287 := n10_
      have NB287_274 := n11_
      have HB := n12_
      bq189_q4
      have hHeld : w40.cell? ⟨gb273, 0, none⟩ = some (.slice A0_0 l0_0.length c0_0) ∧ w40.cell? ⟨gb274, 0, none⟩ = some (.slice A1_0 l1_0.length c1_0) := hS_
      obtain ⟨Ao41, co41, eo41⟩ := Kd.R_slice HO285.out
      (first | subst eo41 | (injection eo41 with f1_ f2_ f3_; bq183_q4; subst f4_; subst f5_))
      refine norm_ (a' := ?_) ?_ ?_
      rotate_left
      · simp only [putAll, Act.put, List.setIfInBounds_toArray, List.set_cons_zero, List.set_cons_succ]
        rfl
      bq224_q4
      have hs42 : w40.cell? ⟨gb287, 0, none⟩ = some (.slice none 0 0) := (blk_cell BK287.out 0).trans rfl
      have hfs42 := blk_frozen BK287.out 0
      have hns42_0 := NB273_287.out
      have hns42_1 := NB274_287.out
      have hms42_0 := NB287_273.out
      have hms42_1 := NB287_274.out
      refine skip_ (w1 := ?_) (by rfl) rfl ?_ ?_
      rotate_left
      · go_simp
        rfl
      refine hK.out _ _ ⟨((cell_far (p := ⟨gb287, _, none⟩) NB273_287.out _).trans (hHeld.1)), ((cell_far (p := ⟨gb287, _, none⟩) NB274_287.out _).trans (hHeld.2))⟩ (fun hHeld => ?_)
      clear hK K
      refine pure_ (i := 10) (N := some 7) (v := ?_) (a' := ?_) #[true, true, true, true, true, true, true, true, true, true, true] rfl rfl (any_of HT_.out (by kernel_rfl)) (fun _ _ _ h => h) (Or.inl ⟨by rfl, ?_⟩) ?_ ?_
      rotate_left
      · intro w'
        go_simp
        with_reducible rfl
      rotate_left
      · bq154_q4
        rfl
      refine done_ (done_of HT_.out (by kernel_rfl)) ?_
      have hnb43 := NB273_287.out
      have hnc43 := NB287_273.out
      have hcz44_0 : w40.cell? ⟨gb273, 0, none⟩ = some (.slice A0_0 l0_0.length c0_0) := (blk_cell BK273.out 0).trans rfl
      have hfz44_0 := blk_frozen BK273.out 0
      go_upto_region 12 with (first | ((with_reducible refine gate_callee (f := 11) rfl ?_); refine goesL_ (some 36) rfl rfl Try.func11 (by kernel_rfl) rfl #[.agg #[.slice A0_0 l0_0.length c0_0]] rfl bq5_q4 ?_; (with_reducible refine (laws_toPoset.calls k _ _ l0_0 t288 _ ?side1 ?side2 A22.out).mono ?_); (case side1 => exact Kd.C_below HR0_0.out bq6_q4); (case side2 => exact HC0_0.out); rintro e w45 ⟨v289, rfl, ho0, hb⟩; refine ⟨_, rfl, ?_⟩; have n0_ := Aside0.mk (Kd.R_elder' bq119_q4 (Kd.R_base ho0) hb); have n1_ := Aside0.mk (Kd.R_elder' bq118_q4 (Kd.R_base ho0) hb); have n2_ := Aside0.mk (Kd.R_elder' bq117_q4 (Kd.R_base ho0) hb); have n3_ := Aside0.mk (Kd.R_lower (Kd.R_new' (Kd.R_new' (Kd.R_new' ho0 (Kd.R_lt bq119_q4)) (Kd.R_lt bq118_q4)) (Kd.R_lt bq117_q4)) (below_size bq6_q4)); have n4_ := Aside0.mk (blk_below (g := gb273) (o := .cells #[.slice A0_0 l0_0.length c0_0] 24 (0, 0)) (by bq1_q4; refine blk_far ?_ NB273_287.out _; bq1_q4; exact BK273.out) hb); have n5_ := Aside0.mk (blk_below (g := gb274) (o := .cells #[.slice A1_0 l1_0.length c1_0] 24 (0, 0)) (by bq1_q4; refine blk_far ?_ NB274_287.out _; bq1_q4; exact BK274.out) hb); have n6_ := Aside0.mk (blk_below (g := gb287) (o := .cells #[.slice Ao41 t283.length co41] 26 (0, 0)) (by bq1_q4; refine blk_put (cs := #[.slice none 0 0]) ?_ 0 _ rfl; bq1_q4; exact BK287.out) hb); have n7_ := Aside0.mk (below_step bq6_q4 hb); clear HO279; clear HO282; clear HO285; bq219_q4; clear n0_ n1_ n2_ n3_ n4_ n5_ n6_ n7_; (try clear hb); bq206_q4; (try clear ho0)) | ((with_reducible refine gate_dst (N := 8) rfl ?_); refine box_event ?hg (N := 8) ?hd (cs := #[.slice none 0 0]) (t := 26) ?hr ?_; (case hd => rfl); (case hg => rfl); bq31_q4; intro gb291 hg w46 hbox hb; bq173_q4; have n4_ := Aside0.mk bq8_q4; have n5_ := Aside0.mk bq9_q4; have n6_ := Aside0.mk bq10_q4; have n7_ := Aside0.mk (below_step bq6_q4 hb); have n8_ := Aside0.mk (hbox); have n9_ := Aside0.mk ((by rw [hg]; exact (below_size bq6_q4) : w.heap.size ≤ gb291)); have n10_ := Aside0.mk ((by rw [hg]; exact (below_size bq6_q4) : w.heap.size ≤ gb291)); have n11_ := Aside0.mk ((by rw [hg]; exact Nat.ne_of_lt bq13_q4 : gb273 ≠ gb291)); have n12_ := Aside0.mk ((by rw [hg]; exact Nat.ne_of_gt bq13_q4 : gb291 ≠ gb273)); have n13_ := Aside0.mk ((by rw [hg]; exact Nat.ne_of_lt bq14_q4 : gb274 ≠ gb291)); have n14_ := Aside0.mk ((by rw [hg]; exact Nat.ne_of_gt bq14_q4 : gb291 ≠ gb274)); have n15_ := Aside0.mk ((by rw [hg]; exact Nat.ne_of_lt bq23_q4 : gb287 ≠ gb291)); have n16_ := Aside0.mk ((by rw [hg]; exact Nat.ne_of_gt bq23_q4 : gb291 ≠ gb287)); clear HO279; clear HO282; clear HO285; clear HO290; bq219_q4; have BK291 := n8_; have GW291 := n9_; have GE291 := n10_; have NB273_291 := n11_; have NB291_273 := n12_; have NB274_291 := n13_; have NB291_274 := n14_; have NB287_291 := n15_; have NB291_287 := n16_; clear n0_ n1_ n2_ n3_ n4_ n5_ n6_ n7_ n8_ n9_ n10_ n11_ n12_ n13_ n14_ n15_ n16_; clear hb hbox hg; obtain ⟨Ao47, co47, eo47⟩ := Kd.R_slice HO290.out; subst eo47; have hnb48 := NB291_273.out; have hnc48 := NB273_291.out; have hnb49 := NB291_274.out; have hnc49 := NB274_291.out; have hnb50 := NB291_287.out; have hnc50 := NB287_291.out; have hcz51_0 : w46.cell? ⟨gb291, 0, none⟩ = some (.slice none 0 0) := (blk_cell BK291.out 0).trans rfl; have hfz51_0 := blk_frozen BK291.out 0; have hnb52 := NB274_287.out; have hnc52 := NB287_274.out; have hcz53_0 : w46.cell? ⟨gb274, 0, none⟩ = some (.slice A1_0 l1_0.length c1_0) := (blk_cell BK274.out 0).trans rfl; have hfz53_0 := blk_frozen BK274.out 0) | ((with_reducible refine gate_callee (f := 11) rfl ?_); refine goesL_ (some 38) rfl rfl Try.func11 (by kernel_rfl) rfl #[.agg #[.slice A1_0 l1_0.length c1_0]] rfl bq5_q4 ?_; (with_reducible refine (laws_toPoset.calls k _ _ l1_0 t292 _ ?side1 ?side2 A23.out).mono ?_); (case side1 => exact Kd.C_below HR1_0.out bq22_q4); (case side2 => exact HC1_0.out); rintro e w54 ⟨v293, rfl, ho0, hb⟩; refine ⟨_, rfl, ?_⟩; have n0_ := Aside0.mk (Kd.R_elder' bq116_q4 (Kd.R_base ho0) hb); have n1_ := Aside0.mk (Kd.R_elder' bq115_q4 (Kd.R_base ho0) hb); have n2_ := Aside0.mk (Kd.R_elder' bq114_q4 (Kd.R_base ho0) hb); have n3_ := Aside0.mk (Kd.R_elder' bq113_q4 (Kd.R_base ho0) hb); have n4_ := Aside0.mk (Kd.R_lower (Kd.R_new' (Kd.R_new' (Kd.R_new' (Kd.R_new' ho0 (Kd.R_lt bq116_q4)) (Kd.R_lt bq115_q4)) (Kd.R_lt bq114_q4)) (Kd.R_lt bq113_q4)) (below_size bq22_q4)); have n5_ := Aside0.mk (blk_below (g := gb273) (o := .cells #[.slice A0_0 l0_0.length c0_0] 24 (0, 0)) (by bq1_q4; refine blk_far ?_ NB273_291.out _; bq1_q4; exact BK273.out) hb); have n6_ := Aside0.mk (blk_below (g := gb274) (o := .cells #[.slice A1_0 l1_0.length c1_0] 24 (0, 0)) (by bq1_q4; refine blk_far ?_ NB274_291.out _; bq1_q4; exact BK274.out) hb); have n7_ := Aside0.mk (blk_below (g := gb287) (o := .cells #[.slice Ao41 t283.length co41] 26 (0, 0)) (by bq1_q4; refine blk_far ?_ NB287_291.out _; bq1_q4; exact BK287.out) hb); have n8_ := Aside0.mk (blk_below (g := gb291) (o := .cells #[.slice Ao47 t288.length co47] 26 (0, 0)) (by bq1_q4; refine blk_put (cs := #[.slice none 0 0]) ?_ 0 _ rfl; bq1_q4; exact BK291.out) hb); have n9_ := Aside0.mk (below_step bq22_q4 hb); clear HO279; clear HO282; clear HO285; clear HO290; bq213_q4; clear n0_ n1_ n2_ n3_ n4_ n5_ n6_ n7_ n8_ n9_; (try clear hb); bq206_q4; (try clear ho0)) | ((with_reducible refine gate_dst (N := 9) rfl ?_); refine box_event ?hg (N := 9) ?hd (cs := #[.slice none 0 0]) (t := 26) ?hr ?_; (case hd => rfl); (case hg => rfl); bq31_q4; intro gb295 hg w55 hbox hb; bq173_q4; have n4_ := Aside0.mk (Kd.R_below (by bq2_q4; exact HO294.out) hb); have n5_ := Aside0.mk bq8_q4; have n6_ := Aside0.mk bq9_q4; have n7_ := Aside0.mk bq10_q4; have n8_ := Aside0.mk bq19_q4; have n9_ := Aside0.mk (below_step bq22_q4 hb); have n10_ := Aside0.mk (hbox); have n11_ := Aside0.mk ((by rw [hg]; exact (below_size bq22_q4) : w.heap.size ≤ gb295)); have n12_ := Aside0.mk ((by rw [hg]; exact (below_size bq22_q4) : w.heap.size ≤ gb295)); have n13_ := Aside0.mk ((by rw [hg]; exact Nat.ne_of_lt bq13_q4 : gb273 ≠ gb295)); have n14_ := Aside0.mk ((by rw [hg]; exact Nat.ne_of_gt bq13_q4 : gb295 ≠ gb273)); have n15_ := Aside0.mk ((by rw [hg]; exact Nat.ne_of_lt bq14_q4 : gb274 ≠ gb295)); have n16_ := Aside0.mk ((by rw [hg]; exact Nat.ne_of_gt bq14_q4 : gb295 ≠ gb274)); have n17_ := Aside0.mk ((by rw [hg]; exact Nat.ne_of_lt bq23_q4 : gb287 ≠ gb295)); have n18_ := Aside0.mk ((by rw [hg]; exact Nat.ne_of_gt bq23_q4 : gb295 ≠ gb287)); have n19_ := Aside0.mk ((by rw [hg]; exact Nat.ne_of_lt bq69_q4 : gb291 ≠ gb295)); have n20_ := Aside0.mk ((by rw [hg]; exact Nat.ne_of_gt bq69_q4 : gb295 ≠ gb291)); clear HO279; bq223_q4; bq213_q4; have BK295 := n10_; have GW295 := n11_; have GE295 := n12_; have NB273_295 := n13_; have NB295_273 := n14_; have NB274_295 := n15_; have NB295_274 := n16_; have NB287_295 := n17_; have NB295_287 := n18_; have NB291_295 := n19_; have NB295_291 := n20_; clear n0_ n1_ n2_ n3_ n4_ n5_ n6_ n7_ n8_ n9_ n10_ n11_ n12_ n13_ n14_ n15_ n16_ n17_ n18_ n19_ n20_; clear hb hbox hg; obtain ⟨Ao56, co56, eo56⟩ := Kd.R_slice HO294.out; subst eo56; have hnb57 := NB295_273.out; have hnc57 := NB273_295.out; have hnb58 := NB295_274.out; have hnc58 := NB274_295.out; have hnb59 := NB295_287.out; have hnc59 := NB287_295.out; have hnb60 := NB295_291.out; have hnc60 := NB291_295.out; have hcz61_0 : w55.cell? ⟨gb295, 0, none⟩ = some (.slice none 0 0) := (blk_cell BK295.out 0).trans rfl; have hfz61_0 := blk_frozen BK295.out 0; have hcz62_0 : w55.cell? ⟨gb291, 0, none⟩ = some (.slice Ao47 t288.length co47) := (blk_cell BK291.out 0).trans rfl; have hfz62_0 := blk_frozen BK291.out 0) | ((with_reducible refine gate_callee (f := 17) rfl ?_); refine goesL_ (some 42) rfl rfl Try.func17 (by kernel_rfl) rfl #[.agg #[.slice Ao47 t288.length co47], .agg #[.slice Ao56 t292.length co56]] rfl bq5_q4 ?_; (with_reducible refine (impl_StackOf.calls k _ _ t288 _ _ t292 t296 t299 _ ?side1 ?side2 ?side3 ?side4 A24.out).mono ?_); (case side1 => refine (Kd.R_reads' (e := 3) (base := w.heap.size) (ok := fun k_ => ((((True ∧ some k_ ≠ (v278 : Value).ownBlock) ∧ some k_ ≠ (v281 : Value).ownBlock) ∧ some k_ ≠ (.slice Ao41 t283.length co41 : Value).ownBlock) ∧ some k_ ≠ (.slice Ao56 t292.length co56 : Value).ownBlock)) (n := t288.length) (c := co47) ?_).2.2; exact bq65_q4); (case side2 => exact (Kd.R_reads' HO290.out).2.1); (case side3 => refine (Kd.R_reads' (e := 3) (base := w.heap.size) (ok := fun k_ => ((((True ∧ some k_ ≠ (v278 : Value).ownBlock) ∧ some k_ ≠ (v281 : Value).ownBlock) ∧ some k_ ≠ (.slice Ao41 t283.length co41 : Value).ownBlock) ∧ some k_ ≠ (.slice Ao47 t288.length co47 : Value).ownBlock)) (n := t292.length) (c := co56) ?_).2.2; exact bq64_q4); (case side4 => exact (Kd.R_reads' HO294.out).2.1); rintro e w63 ⟨v297, rfl, ho0, hb⟩; refine ⟨_, rfl, ?_⟩; have n0_ := Aside0.mk (Kd.R_elder' bq112_q4 (Kd.R_base ho0) hb); have n1_ := Aside0.mk (Kd.R_elder' bq111_q4 (Kd.R_base ho0) hb); have n2_ := Aside0.mk (Kd.R_elder' bq110_q4 (Kd.R_base ho0) hb); have n3_ := Aside0.mk (Kd.R_elder' bq65_q4 (Kd.R_base ho0) hb); have n4_ := Aside0.mk (Kd.R_elder' bq64_q4 (Kd.R_base ho0) hb); have n5_ := Aside0.mk (Kd.R_lower (Kd.R_new' (Kd.R_new' (Kd.R_new' (Kd.R_new' (Kd.R_new' ho0 (Kd.R_lt bq112_q4)) (Kd.R_lt bq111_q4)) (Kd.R_lt bq110_q4)) (Kd.R_lt bq65_q4)) (Kd.R_lt bq64_q4)) (below_size bq25_q4)); have n6_ := Aside0.mk (blk_below (g := gb273) (o := .cells #[.slice A0_0 l0_0.length c0_0] 24 (0, 0)) (by bq1_q4; refine blk_far ?_ NB273_295.out _; bq1_q4; exact BK273.out) hb); have n7_ := Aside0.mk (blk_below (g := gb274) (o := .cells #[.slice A1_0 l1_0.length c1_0] 24 (0, 0)) (by bq1_q4; refine blk_far ?_ NB274_295.out _; bq1_q4; exact BK274.out) hb); have n8_ := Aside0.mk (blk_below (g := gb287) (o := .cells #[.slice Ao41 t283.length co41] 26 (0, 0)) (by bq1_q4; refine blk_far ?_ NB287_295.out _; bq1_q4; exact BK287.out) hb); have n9_ := Aside0.mk (blk_below (g := gb291) (o := .cells #[.slice Ao47 t288.length co47] 26 (0, 0)) (by bq1_q4; refine blk_far ?_ NB291_295.out _; bq1_q4; exact BK291.out) hb); have n10_ := Aside0.mk (blk_below (g := gb295) (o := .cells #[.slice Ao56 t292.length co56] 26 (0, 0)) (by bq1_q4; refine blk_put (cs := #[.slice none 0 0]) ?_ 0 _ rfl; bq1_q4; exact BK295.out) hb); have n11_ := Aside0.mk (below_step bq25_q4 hb); clear HO279; bq223_q4; bq163_q4; bq167_q4; have HB := n11_; bq210_q4; (try clear hb); bq206_q4; (try clear ho0)) | ((with_reducible refine gate_dst (N := 10) rfl ?_); refine box_event ?hg (N := 10) ?hd (cs := #[.slice none 0 0]) (t := 26) ?hr ?_; (case hd => rfl); (case hg => rfl); bq31_q4; intro gb300 hg w64 hbox hb; bq173_q4; have n4_ := Aside0.mk (Kd.R_below (by bq2_q4; exact HO294.out) hb); have n5_ := Aside0.mk (Kd.R_below (by bq2_q4; exact HO298.out) hb); have n6_ := Aside0.mk bq8_q4; have n7_ := Aside0.mk bq9_q4; have n8_ := Aside0.mk bq10_q4; have n9_ := Aside0.mk bq19_q4; have n10_ := Aside0.mk bq24_q4; have n11_ := Aside0.mk (below_step bq25_q4 hb); have n12_ := Aside0.mk (hbox); have n13_ := Aside0.mk ((by rw [hg]; exact (below_size bq25_q4) : w.heap.size ≤ gb300)); have n14_ := Aside0.mk ((by rw [hg]; exact (below_size bq25_q4) : w.heap.size ≤ gb300)); have n15_ := Aside0.mk ((by rw [hg]; exact Nat.ne_of_lt bq13_q4 : gb273 ≠ gb300)); have n16_ := Aside0.mk ((by rw [hg]; exact Nat.ne_of_gt bq13_q4 : gb300 ≠ gb273)); have n17_ := Aside0.mk ((by rw [hg]; exact Nat.ne_of_lt bq14_q4 : gb274 ≠ gb300)); have n18_ := Aside0.mk ((by rw [hg]; exact Nat.ne_of_gt bq14_q4 : gb300 ≠ gb274)); have n19_ := Aside0.mk ((by rw [hg]; exact Nat.ne_of_lt bq23_q4 : gb287 ≠ gb300)); have n20_ := Aside0.mk ((by rw [hg]; exact Nat.ne_of_gt bq23_q4 : gb300 ≠ gb287)); have n21_ := Aside0.mk ((by rw [hg]; exact Nat.ne_of_lt bq69_q4 : gb291 ≠ gb300)); have n22_ := Aside0.mk ((by rw [hg]; exact Nat.ne_of_gt bq69_q4 : gb300 ≠ gb291)); have n23_ := Aside0.mk ((by rw [hg]; exact Nat.ne_of_lt (blk_lt (g := gb295) (o := .cells #[.slice Ao56 t292.length co56] 26 (0, 0)) (by bq1_q4; exact BK295.out)) : gb295 ≠ gb300)); have n24_ := Aside0.mk ((by rw [hg]; exact Nat.ne_of_gt (blk_lt (g := gb295) (o := .cells #[.slice Ao56 t292.length co56] 26 (0, 0)) (by bq1_q4; exact BK295.out)) : gb300 ≠ gb295)); clear HO279; bq223_q4; clear HO298; bq163_q4; bq167_q4; have HB := n11_; have BK300 := n12_; have GW300 := n13_; have GE300 := n14_; have NB273_300 := n15_; have NB300_273 := n16_; have NB274_300 := n17_; have NB300_274 := n18_; have NB287_300 := n19_; have NB300_287 := n20_; have NB291_300 := n21_; have NB300_291 := n22_; have NB295_300 := n23_; have NB300_295 := n24_; clear n0_ n1_ n2_ n3_ n4_ n5_ n6_ n7_ n8_ n9_ n10_ n11_ n12_ n13_ n14_ n15_ n16_ n17_ n18_ n19_ n20_ n21_ n22_ n23_ n24_; clear hb hbox hg; obtain ⟨Ao65, co65, eo65⟩ := Kd.R_slice HO298.out; subst eo65; have hnb66 := NB300_273.out; have hnc66 := NB273_300.out; have hnb67 := NB300_274.out; have hnc67 := NB274_300.out; have hnb68 := NB300_287.out; have hnc68 := NB287_300.out; have hnb69 := NB300_291.out; have hnc69 := NB291_300.out; have hnb70 := NB300_295.out; have hnc70 := NB295_300.out; have hcz71_0 : w64.cell? ⟨gb300, 0, none⟩ = some (.slice none 0 0) := (blk_cell BK300.out 0).trans rfl; have hfz71_0 := blk_frozen BK300.out 0))
      (try simp only [Act.put, List.setIfInBounds_toArray, List.set_cons_zero, List.set_cons_succ])
      go_cut [53] (fun v53 wc => ∃ (kq : Nat) (x53_24 : Bool), v53 = .bool x53_24 ∧ Aside0 (laws_FnExactStackOf.j0 kq t286 t299 x53_24 l0_0 l1_0 t283 t288 t292 t296 = some r) ∧ Aside0 (kq ≤ k) ∧ Aside0 (Kd.R (Kd.int .i64) 3 wc w.heap.size (fun k_ => some k_ ≠ ((.slice Ao47 t288.length co47) : Value).ownBlock ∧ some k_ ≠ ((.slice Ao56 t292.length co56) : Value).ownBlock ∧ some k_ ≠ ((.slice Ao65 t296.length co65) : Value).ownBlock) (.slice Ao41 t283.length co41) t283) ∧ Aside0 (Kd.R (Kd.int .i64) 3 wc w.heap.size (fun k_ => some k_ ≠ ((.slice Ao41 t283.length co41) : Value).ownBlock ∧ some k_ ≠ ((.slice Ao56 t292.length co56) : Value).ownBlock ∧ some k_ ≠ ((.slice Ao65 t296.length co65) : Value).ownBlock) (.slice Ao47 t288.length co47) t288) ∧ Aside0 (Kd.R (Kd.int .i64) 3 wc w.heap.size (fun k_ => some k_ ≠ ((.slice Ao41 t283.length co41) : Value).ownBlock ∧ some k_ ≠ ((.slice Ao47 t288.length co47) : Value).ownBlock ∧ some k_ ≠ ((.slice Ao65 t296.length co65) : Value).ownBlock) (.slice Ao56 t292.length co56) t292) ∧ Aside0 (Kd.R (Kd.int .i64) 3 wc w.heap.size (fun k_ => some k_ ≠ ((.slice Ao41 t283.length co41) : Value).ownBlock ∧ some k_ ≠ ((.slice Ao47 t288.length co47) : Value).ownBlock ∧ some k_ ≠ ((.slice Ao56 t292.length co56) : Value).ownBlock) (.slice Ao65 t296.length co65) t296) ∧ Aside0 (wc.heap[gb273]? = some (.cells #[(.slice A0_0 l0_0.length c0_0)] 24 (0, 0))) ∧ Aside0 (wc.heap[gb274]? = some (.cells #[(.slice A1_0 l1_0.length c1_0)] 24 (0, 0))) ∧ Aside0 (wc.heap[gb287]? = some (.cells #[(.slice Ao41 t283.length co41)] 26 (0, 0))) ∧ Aside0 (wc.heap[gb291]? = some (.cells #[(.slice Ao47 t288.length co47)] 26 (0, 0))) ∧ Aside0 (wc.heap[gb295]? = some (.cells #[(.slice Ao56 t292.length co56)] 26 (0, 0))) ∧ Aside0 (wc.heap[gb300]? = some (.cells #[(.slice Ao65 t296.length co65)] 26 (0, 0))) ∧ Aside0 (Below w.heap.size w wc))
      case first =>
        have H := HC25.out
        clear HC25
        replace H := Option.bind_eq_some_iff.mp H
        obtain ⟨t301, A720, H⟩ := H
        replace H : (if t301 = true then (laws_FnExactStackOf.j0 k t286 t299 (t299 != t286) l0_0 l1_0 t283 t288 t292 t296) else (laws_FnExactStackOf.j0 k t286 t299 true l0_0 l1_0 t283 t288 t292 t296)) = some r := H
        have A72 := Aside0.mk A720
        clear A720
        by_cases c73 : t301 = true
        · subst c73
          have H1 : (laws_FnExactStackOf.j0 k t286 t299 (t299 != t286) l0_0 l1_0 t283 t288 t292 t296) = some r := by rw [if_pos rfl] at H; exact H
          clear H
          have H := H1
          clear H1
          have H' := Aside0.mk H
          clear H
          have hnb74 := NB300_273.out
          have hnc74 := NB273_300.out
          have hnb75 := NB300_274.out
          have hnc75 := NB274_300.out
          have hnb76 := NB300_287.out
          have hnc76 := NB287_300.out
          have hnb77 := NB300_291.out
          have hnc77 := NB291_300.out
          have hnb78 := NB300_295.out
          have hnc78 := NB295_300.out
          have hcz79_0 : w64.cell? ⟨gb300, 0, none⟩ = some (.slice none 0 0) := (blk_cell BK300.out 0).trans rfl
          have hfz79_0 := blk_frozen BK300.out 0
          have hnb80 := NB287_273.out
          have hnc80 := NB273_287.out
          have hnb81 := NB287_274.out
          have hnc81 := NB274_287.out
          have hnb82 := NB287_291.out
          have hnc82 := NB291_287.out
          have hnb83 := NB287_295.out
          have hnc83 := NB295_287.out
          have hcz84_0 : w64.cell? ⟨gb287, 0, none⟩ = some (.slice Ao41 t283.length co41) := (blk_cell BK287.out 0).trans rfl
          have hfz84_0 := blk_frozen BK287.out 0
          go_wp2_with (first | (bq152_q4; bq231_q4; (with_reducible refine (laws_eqPoset.calls k _ _ t296 _ _ t283 true _ ?side1 ?side2 ?side3 ?side4 A72.out).mono ?_); bq41_q4; (case side2 => exact (Kd.R_reads' HO298.out).2.1); bq42_q4; (case side4 => exact (Kd.R_reads' HO285.out).2.1); rintro e w85 ⟨rfl, hb⟩; bq182_q4; bq223_q4; clear HO298; bq163_q4; clear BK300; bq167_q4; have BK300 := n11_; bq165_q4))
          go_meet
          case rel => exact ⟨_, ((t299 != t286)), (by first | rfl | (simp; done) | (simp [*]; done)), H', ⟨by first | omega | exact Nat.le_refl _⟩, ⟨by bq2_q4; exact Kd.R_mono HO285.out (fun _ hk => ⟨hk.1.1.2, ⟨hk.1.2, hk.2⟩⟩)⟩, ⟨by bq2_q4; exact Kd.R_mono HO290.out (fun _ hk => ⟨hk.1.1.2, ⟨hk.1.2, hk.2⟩⟩)⟩, ⟨by bq2_q4; exact Kd.R_mono HO294.out (fun _ hk => ⟨hk.1.1.2, ⟨hk.1.2, hk.2⟩⟩)⟩, ⟨by bq2_q4; exact Kd.R_mono HO298.out (fun _ hk => ⟨hk.1.1.2, ⟨hk.1.2, hk.2⟩⟩)⟩, ⟨by bq1_q4; exact BK273.out⟩, ⟨by bq1_q4; exact BK274.out⟩, ⟨by bq1_q4; exact BK287.out⟩, ⟨by bq1_q4; exact BK291.out⟩, ⟨by bq1_q4; exact BK295.out⟩, ⟨by bq1_q4; exact BK300.out⟩, ⟨by repeat bq3_q4⟩⟩
        · replace c73 := Bool.eq_false_iff.mpr c73
          subst c73
          have H1 : (laws_FnExactStackOf.j0 k t286 t299 true l0_0 l1_0 t283 t288 t292 t296) = some r := by rw [if_neg (show ¬ (false = true) by decide)] at H; exact H
          clear H
          have H := H1
          clear H1
          have H' := Aside0.mk H
          clear H
          have hnb86 := NB300_273.out
          have hnc86 := NB273_300.out
          have hnb87 := NB300_274.out
          have hnc87 := NB274_300.out
          have hnb88 := NB300_287.out
          have hnc88 := NB287_300.out
          have hnb89 := NB300_291.out
          have hnc89 := NB291_300.out
          have hnb90 := NB300_295.out
          have hnc90 := NB295_300.out
          have hcz91_0 : w64.cell? ⟨gb300, 0, none⟩ = some (.slice none 0 0) := (blk_cell BK300.out 0).trans rfl
          have hfz91_0 := blk_frozen BK300.out 0
          have hnb92 := NB287_273.out
          have hnc92 := NB273_287.out
          have hnb93 := NB287_274.out
          have hnc93 := NB274_287.out
          have hnb94 := NB287_291.out
          have hnc94 := NB291_287.out
          have hnb95 := NB287_295.out
          have hnc95 := NB295_287.out
          have hcz96_0 : w64.cell? ⟨gb287, 0, none⟩ = some (.slice Ao41 t283.length co41) := (blk_cell BK287.out 0).trans rfl
          have hfz96_0 := blk_frozen BK287.out 0
          go_wp2_with (first | (bq152_q4; bq231_q4; (with_reducible refine (laws_eqPoset.calls k _ _ t296 _ _ t283 false _ ?side1 ?side2 ?side3 ?side4 A72.out).mono ?_); bq41_q4; (case side2 => exact (Kd.R_reads' HO298.out).2.1); bq42_q4; (case side4 => exact (Kd.R_reads' HO285.out).2.1); rintro e w97 ⟨rfl, hb⟩; bq182_q4; bq223_q4; clear HO298; bq163_q4; clear BK300; bq167_q4; have BK300 := n11_; bq165_q4))
          go_meet
          case rel => exact ⟨_, (true), (by first | rfl | (simp; done) | (simp [*]; done)), H', ⟨by first | omega | exact Nat.le_refl _⟩, ⟨by bq2_q4; exact Kd.R_mono HO285.out (fun _ hk => ⟨hk.1.1.2, ⟨hk.1.2, hk.2⟩⟩)⟩, ⟨by bq2_q4; exact Kd.R_mono HO290.out (fun _ hk => ⟨hk.1.1.2, ⟨hk.1.2, hk.2⟩⟩)⟩, ⟨by bq2_q4; exact Kd.R_mono HO294.out (fun _ hk => ⟨hk.1.1.2, ⟨hk.1.2, hk.2⟩⟩)⟩, ⟨by bq2_q4; exact Kd.R_mono HO298.out (fun _ hk => ⟨hk.1.1.2, ⟨hk.1.2, hk.2⟩⟩)⟩, ⟨by bq1_q4; exact BK273.out⟩, ⟨by bq1_q4; exact BK274.out⟩, ⟨by bq1_q4; exact BK287.out⟩, ⟨by bq1_q4; exact BK291.out⟩, ⟨by bq1_q4; exact BK295.out⟩, ⟨by bq1_q4; exact BK300.out⟩, ⟨by repeat bq3_q4⟩⟩
      case rest =>
        clear HC25
        try clear c1
        try clear p2
        try clear c4
        try clear c5
        try clear c6
        try clear c7
        try clear c8
        try clear c9
        try clear c11
        try clear c13
        try clear c16
        try clear c17
        try clear c43
        try clear c48
        try clear c49
        try clear c50
        try clear c52
        try clear c57
        try clear c58
        try clear c59
        try clear c60
        try clear c66
        try clear c67
        try clear c68
        try clear c69
        try clear c70
        try clear c73
        try clear c74
        try clear c75
        try clear c76
        try clear c77
        try clear c78
        try clear c80
        try clear c81
        try clear c82
        try clear c83
        try clear c86
        try clear c87
        try clear c88
        try clear c89
        try clear c90
        try clear c92
        try clear c93
        try clear c94
        try clear c95
        try clear hcz44_0
        try clear hcz51_0
        try clear hcz53_0
        try clear hcz61_0
        try clear hcz62_0
        try clear hcz71_0
        try clear hcz79_0
        try clear hcz84_0
        try clear hcz91_0
        try clear hcz96_0
        try clear hfz44_0
        try clear hfz51_0
        try clear hfz53_0
        try clear hfz61_0
        try clear hfz62_0
        try clear hfz71_0
        try clear hfz79_0
        try clear hfz84_0
        try clear hfz91_0
        try clear hfz96_0
        obtain ⟨kq, x53_24, rfl, HA, HJ24, HO_288000, HO_292000, HO_296000, HO_301000, BK273, BK274, BK287, BK291, BK295, BK300, HB⟩ := hcut
        cases kq with
        | zero => exact absurd HA.out (by simp [laws_FnExactStackOf.j0])
        | succ kj24 =>
          have H := HA.out
          clear HA
          simp only [laws_FnExactStackOf.j0] at H
          by_cases c98 : x53_24 = true
          · subst c98
            bq236_q4
            clear H
            have H := H1
            clear H1
            obtain rfl := Option.some.inj H
            go_wp2
            go_ret
            bq171_q4
          · replace c98 := Bool.eq_false_iff.mpr c98
            subst c98
            have H1 : ((laws_toPoset.f kj24 l0_0).bind fun t302 => ((laws_eqPoset.f kj24 t288 t302).bind fun t305 => (if t305 = true then ((laws_toPoset.f kj24 l1_0).bind fun t306 => ((laws_eqPoset.f kj24 t292 t306).bind fun t309 => (if t309 = true then ((laws_markPoset.f kj24 t288 1).bind fun bt310 => ((laws_markPoset.f kj24 t292 bt310.1).bind fun bt312 => (if bt312.1 < 0 then (laws_FnExactStackOf.j1 kj24 t286 true l0_0 l1_0 t283 t296) else ((laws_eqPoset.f kj24 t296 t283).bind fun t314 => (if t314 = true then (laws_FnExactStackOf.j1 kj24 t286 (t299 != t286) l0_0 l1_0 t283 t296) else (laws_FnExactStackOf.j1 kj24 t286 true l0_0 l1_0 t283 t296)))))) else (some false)))) else (some false)))) = some r := by rw [if_neg (show ¬ (false = true) by decide)] at H; exact H
            clear H
            have H := H1
            clear H1
            replace H := Option.bind_eq_some_iff.mp H
            obtain ⟨t302, A990, H⟩ := H
            replace H : ((laws_eqPoset.f kj24 t288 t302).bind fun t305 => (if t305 = true then ((laws_toPoset.f kj24 l1_0).bind fun t306 => ((laws_eqPoset.f kj24 t292 t306).bind fun t309 => (if t309 = true then ((laws_markPoset.f kj24 t288 1).bind fun bt310 => ((laws_markPoset.f kj24 t292 bt310.1).bind fun bt312 => (if bt312.1 < 0 then (laws_FnExactStackOf.j1 kj24 t286 true l0_0 l1_0 t283 t296) else ((laws_eqPoset.f kj24 t296 t283).bind fun t314 => (if t314 = true then (laws_FnExactStackOf.j1 kj24 t286 (t299 != t286) l0_0 l1_0 t283 t296) else (laws_FnExactStackOf.j1 kj24 t286 true l0_0 l1_0 t283 t296)))))) else (some false)))) else (some false))) = some r := H
            have A99 := Aside0.mk A990
            clear A990
            replace H := Option.bind_eq_some_iff.mp H
            obtain ⟨t305, A1000, H⟩ := H
            replace H : (if t305 = true then ((laws_toPoset.f kj24 l1_0).bind fun t306 => ((laws_eqPoset.f kj24 t292 t306).bind fun t309 => (if t309 = true then ((laws_markPoset.f kj24 t288 1).bind fun bt310 => ((laws_markPoset.f kj24 t292 bt310.1).bind fun bt312 => (if bt312.1 < 0 then (laws_FnExactStackOf.j1 kj24 t286 true l0_0 l1_0 t283 t296) else ((laws_eqPoset.f kj24 t296 t283).bind fun t314 => (if t314 = true then (laws_FnExactStackOf.j1 kj24 t286 (t299 != t286) l0_0 l1_0 t283 t296) else (laws_FnExactStackOf.j1 kj24 t286 true l0_0 l1_0 t283 t296)))))) else (some false)))) else (some false)) = some r := H
            have A100 := Aside0.mk A1000
            clear A1000
            by_cases c101 : t305 = true
            · subst c101
              have H1 : ((laws_toPoset.f kj24 l1_0).bind fun t306 => ((laws_eqPoset.f kj24 t292 t306).bind fun t309 => (if t309 = true then ((laws_markPoset.f kj24 t288 1).bind fun bt310 => ((laws_markPoset.f kj24 t292 bt310.1).bind fun bt312 => (if bt312.1 < 0 then (laws_FnExactStackOf.j1 kj24 t286 true l0_0 l1_0 t283 t296) else ((laws_eqPoset.f kj24 t296 t283).bind fun t314 => (if t314 = true then (laws_FnExactStackOf.j1 kj24 t286 (t299 != t286) l0_0 l1_0 t283 t296) else (laws_FnExactStackOf.j1 kj24 t286 true l0_0 l1_0 t283 t296)))))) else (some false)))) = some r := by rw [if_pos rfl] at H; exact H
              clear H
              have H := H1
              clear H1
              replace H := Option.bind_eq_some_iff.mp H
              obtain ⟨t306, A1020, H⟩ := H
              replace H : ((laws_eqPoset.f kj24 t292 t306).bind fun t309 => (if t309 = true then ((laws_markPoset.f kj24 t288 1).bind fun bt310 => ((laws_markPoset.f kj24 t292 bt310.1).bind fun bt312 => (if bt312.1 < 0 then (laws_FnExactStackOf.j1 kj24 t286 true l0_0 l1_0 t283 t296) else ((laws_eqPoset.f kj24 t296 t283).bind fun t314 => (if t314 = true then (laws_FnExactStackOf.j1 kj24 t286 (t299 != t286) l0_0 l1_0 t283 t296) else (laws_FnExactStackOf.j1 kj24 t286 true l0_0 l1_0 t283 t296)))))) else (some false))) = some r := H
              have A102 := Aside0.mk A1020
              clear A1020
              replace H := Option.bind_eq_some_iff.mp H
              obtain ⟨t309, A1030, H⟩ := H
              replace H : (if t309 = true then ((laws_markPoset.f kj24 t288 1).bind fun bt310 => ((laws_markPoset.f kj24 t292 bt310.1).bind fun bt312 => (if bt312.1 < 0 then (laws_FnExactStackOf.j1 kj24 t286 true l0_0 l1_0 t283 t296) else ((laws_eqPoset.f kj24 t296 t283).bind fun t314 => (if t314 = true then (laws_FnExactStackOf.j1 kj24 t286 (t299 != t286) l0_0 l1_0 t283 t296) else (laws_FnExactStackOf.j1 kj24 t286 true l0_0 l1_0 t283 t296)))))) else (some false)) = some r := H
              have A103 := Aside0.mk A1030
              clear A1030
              by_cases c104 : t309 = true
              · subst c104
                have H1 : ((laws_markPoset.f kj24 t288 1).bind fun bt310 => ((laws_markPoset.f kj24 t292 bt310.1).bind fun bt312 => (if bt312.1 < 0 then (laws_FnExactStackOf.j1 kj24 t286 true l0_0 l1_0 t283 t296) else ((laws_eqPoset.f kj24 t296 t283).bind fun t314 => (if t314 = true then (laws_FnExactStackOf.j1 kj24 t286 (t299 != t286) l0_0 l1_0 t283 t296) else (laws_FnExactStackOf.j1 kj24 t286 true l0_0 l1_0 t283 t296)))))) = some r := by rw [if_pos rfl] at H; exact H
                clear H
                have H := H1
                clear H1
                replace H := Option.bind_eq_some_iff.mp H
                obtain ⟨⟨t310, t311⟩, A1050, H⟩ := H
                replace H : ((laws_markPoset.f kj24 t292 t310).bind fun bt312 => (if bt312.1 < 0 then (laws_FnExactStackOf.j1 kj24 t286 true l0_0 l1_0 t283 t296) else ((laws_eqPoset.f kj24 t296 t283).bind fun t314 => (if t314 = true then (laws_FnExactStackOf.j1 kj24 t286 (t299 != t286) l0_0 l1_0 t283 t296) else (laws_FnExactStackOf.j1 kj24 t286 true l0_0 l1_0 t283 t296))))) = some r := H
                have A105 := Aside0.mk A1050
                clear A1050
                replace H := Option.bind_eq_some_iff.mp H
                obtain ⟨⟨t312, t313⟩, A1060, H⟩ := H
                replace H : (if t312 < 0 then (laws_FnExactStackOf.j1 kj24 t286 true l0_0 l1_0 t283 t296) else ((laws_eqPoset.f kj24 t296 t283).bind fun t314 => (if t314 = true then (laws_FnExactStackOf.j1 kj24 t286 (t299 != t286) l0_0 l1_0 t283 t296) else (laws_FnExactStackOf.j1 kj24 t286 true l0_0 l1_0 t283 t296)))) = some r := H
                have A106 := Aside0.mk A1060
                clear A1060
                have HC107 := Aside0.mk H
                clear H
                try go_wp2
                have n0_ := Aside0.mk (Kd.R_drew HO_288000.out)
                have n1_ := Aside0.mk (Kd.R_drew HO_292000.out)
                have n2_ := Aside0.mk (Kd.R_drew HO_296000.out)
                have n3_ := Aside0.mk (Kd.R_drew HO_301000.out)
                have n4_ := Aside0.mk (blk_drew BK273.out)
                have n5_ := Aside0.mk (blk_drew BK274.out)
                have n6_ := Aside0.mk (blk_drew BK287.out)
                have n7_ := Aside0.mk (blk_drew BK291.out)
                have n8_ := Aside0.mk (blk_drew BK295.out)
                have n9_ := Aside0.mk (blk_drew BK300.out)
                have n10_ := Aside0.mk (below_drew1 HB.out)
                clear HO_288000
                clear HO_292000
                clear HO_296000
                clear HO_301000
                clear BK273
                clear BK274
                clear BK287
                clear BK291
                clear BK295
                clear BK300
                clear HB
                have HO_288000 := n0_
                have HO_292000 := n1_
                have HO_296000 := n2_
                have HO_301000 := n3_
                have BK273 := n4_
                have BK274 := n5_
                have BK287 := n6_
                have BK291 := n7_
                have BK295 := n8_
                have BK300 := n9_
                have HB := n10_
                clear n0_ n1_ n2_ n3_ n4_ n5_ n6_ n7_ n8_ n9_ n10_
                refine start_ (n := 5) (S := fun w' => w'.cell? ⟨gb291, 0, none⟩ = some (.slice Ao47 t288.length co47) ∧ w'.cell? ⟨gb273, 0, none⟩ = some (.slice A0_0 l0_0.length c0_0)) (ds := []) #[false, false, false, false, false] (by kernel_rfl) rfl rfl ⟨(blk_cell BK291.out 0).trans rfl, (blk_cell BK273.out 0).trans rfl⟩ (fun hHeld => ?_)
                generalize wc.drew = w108 at HO_288000 HO_292000 HO_296000 HO_301000 BK273 BK274 BK287 BK291 BK295 BK300 HB hHeld ⊢
                bq197_q4
                rotate_left
                · rintro w' ⟨s0, s1⟩
                  go_simp
                  with_reducible rfl
                rotate_left
                · bq154_q4
                  rfl
                bq198_q4
                rotate_left
                · rintro w' ⟨s0, s1⟩
                  go_simp
                  with_reducible rfl
                rotate_left
                · bq154_q4
                  rfl
                bq215_q4
                bq169_q4
                with_reducible refine (laws_toPoset.calls kj24 _ _ l0_0 t302 _ ?side1 ?side2 A99.out).mono ?_
                bq18_q4
                (case side2 => exact HC0_0.out)
                rintro e w109 ⟨v303, rfl, ho0, hb⟩
                refine ⟨_, rfl, ?_⟩
                have n0_ := Aside0.mk bq30_q4
                have n1_ := Aside0.mk bq29_q4
                have n2_ := Aside0.mk bq28_q4
                have n3_ := Aside0.mk bq27_q4
                have n4_ := Aside0.mk bq153_q4
                have n5_ := Aside0.mk bq8_q4
                have n6_ := Aside0.mk bq9_q4
                have n7_ := Aside0.mk bq10_q4
                have n8_ := Aside0.mk bq19_q4
                have n9_ := Aside0.mk bq24_q4
                have n10_ := Aside0.mk bq11_q4
                bq192_q4
                clear HO_288000
                clear HO_292000
                clear HO_296000
                clear HO_301000
                clear BK273
                clear BK274
                clear BK287
                clear BK291
                clear BK295
                clear BK300
                clear HB
                have HO_288000 := n0_
                have HO_292000 := n1_
                have HO_296000 := n2_
                have HO_301000 := n3_
                have HO304 := n4_
                have BK273 := n5_
                have BK274 := n6_
                have BK287 := n7_
                have BK291 := n8_
                have BK295 := n9_
                have BK300 := n10_
                have HB := n11_
                bq210_q4
                (try clear hb)
                (try clear hb2)
                (try clear hk)
                (try clear hi)
                (try clear ho0)
                obtain ⟨Ao110, co110, eo110⟩ := Kd.R_slice HO304.out
                (first | subst eo110 | (injection eo110 with f1_ f2_ f3_; bq183_q4; subst f4_; subst f5_))
                bq180_q4
                clear hK K
                refine norm_ (a' := ?_) ?_ ?_
                rotate_left
                · show Act.put _ (some 56) _ = _
                  bq154_q4
                  rfl
                bq216_q4
                refine goes_ Try.func13 (by kernel_rfl) rfl #[.agg #[.slice Ao47 t288.length co47], .agg #[.slice Ao110 t302.length co110]] (by rfl) rfl rfl bq5_q4 ?_
                with_reducible refine (laws_eqPoset.calls kj24 _ _ t288 _ _ t302 true _ ?side1 ?side2 ?side3 ?side4 A100.out).mono ?_
                bq55_q4
                (case side2 => exact (Kd.R_reads' HO_292000.out).2.1)
                bq60_q4
                (case side4 => exact (Kd.R_reads' HO304.out).2.1)
                rintro e w111 ⟨rfl, hb⟩
                refine ⟨_, rfl, ?_⟩
                bq178_q4
                bq177_q4
                bq176_q4
                bq175_q4
                bq214_q4
                have n5_ := Aside0.mk bq8_q4
                have n6_ := Aside0.mk bq9_q4
                have n7_ := Aside0.mk bq10_q4
                have n8_ := Aside0.mk bq19_q4
                have n9_ := Aside0.mk bq24_q4
                have n10_ := Aside0.mk bq11_q4
                bq192_q4
                clear HO_288000
                clear HO_292000
                clear HO_296000
                clear HO_301000
                clear HO304
                clear BK273
                clear BK274
                clear BK287
                clear BK291
                clear BK295
                clear BK300
                clear HB
                have HO_288000 := n0_
                have HO_292000 := n1_
                have HO_296000 := n2_
                have HO_301000 := n3_
                have HO304 := n4_
                have BK273 := n5_
                have BK274 := n6_
                have BK287 := n7_
                have BK291 := n8_
                have BK295 := n9_
                have BK300 := n10_
                have HB := n11_
                bq210_q4
                (try clear hb)
                (try clear hb2)
                (try clear hk)
                (try clear hi)
                bq180_q4
                clear hK K
                refine norm_ (a' := ?_) ?_ ?_
                rotate_left
                · show Act.put _ (some 57) _ = _
                  bq154_q4
                  rfl
                bq201_q4
                rotate_left
                · intro w'
                  go_simp
                  with_reducible rfl
                rotate_left
                · bq154_q4
                  rfl
                refine done_ (by kernel_rfl) ?_
                try go_wp2
                have n0_ := Aside0.mk (Kd.R_drew HO_288000.out)
                have n1_ := Aside0.mk (Kd.R_drew HO_292000.out)
                have n2_ := Aside0.mk (Kd.R_drew HO_296000.out)
                have n3_ := Aside0.mk (Kd.R_drew HO_301000.out)
                have n4_ := Aside0.mk (Kd.R_drew HO304.out)
                have n5_ := Aside0.mk (blk_drew BK273.out)
                have n6_ := Aside0.mk (blk_drew BK274.out)
                have n7_ := Aside0.mk (blk_drew BK287.out)
                have n8_ := Aside0.mk (blk_drew BK291.out)
                have n9_ := Aside0.mk (blk_drew BK295.out)
                have n10_ := Aside0.mk (blk_drew BK300.out)
                have n11_ := Aside0.mk (below_drew1 HB.out)
                clear HO_288000
                clear HO_292000
                clear HO_296000
                clear HO_301000
                clear HO304
                clear BK273
                clear BK274
                clear BK287
                clear BK291
                clear BK295
                clear BK300
                clear HB
                have HO_288000 := n0_
                have HO_292000 := n1_
                have HO_296000 := n2_
                have HO_301000 := n3_
                have HO304 := n4_
                have BK273 := n5_
                have BK274 := n6_
                have BK287 := n7_
                have BK291 := n8_
                have BK295 := n9_
                have BK300 := n10_
                have HB := n11_
                bq210_q4
                refine start_ (n := 5) (S := fun w' => w'.cell? ⟨gb295, 0, none⟩ = some (.slice Ao56 t292.length co56) ∧ w'.cell? ⟨gb274, 0, none⟩ = some (.slice A1_0 l1_0.length c1_0)) (ds := []) #[false, false, false, false, false] (by kernel_rfl) rfl rfl ⟨(blk_cell BK295.out 0).trans rfl, (blk_cell BK274.out 0).trans rfl⟩ (fun hHeld => ?_)
                generalize w111.drew = w112 at HO_288000 HO_292000 HO_296000 HO_301000 HO304 BK273 BK274 BK287 BK291 BK295 BK300 HB hHeld ⊢
                bq225_q4
                rotate_left
                · rintro w' ⟨s0, s1⟩
                  go_simp
                  with_reducible rfl
                rotate_left
                · bq154_q4
                  rfl
                bq226_q4
                rotate_left
                · rintro w' ⟨s0, s1⟩
                  go_simp
                  with_reducible rfl
                rotate_left
                · bq154_q4
                  rfl
                bq242_q4
                bq166_q4
                with_reducible refine (laws_toPoset.calls kj24 _ _ l1_0 t306 _ ?side1 ?side2 A102.out).mono ?_
                bq17_q4
                (case side2 => exact HC1_0.out)
                rintro e w113 ⟨v307, rfl, ho0, hb⟩
                refine ⟨_, rfl, ?_⟩
                have n0_ := Aside0.mk bq30_q4
                have n1_ := Aside0.mk bq29_q4
                have n2_ := Aside0.mk bq28_q4
                have n3_ := Aside0.mk bq27_q4
                have n4_ := Aside0.mk (Kd.R_elder' (by bq2_q4; exact HO304.out) (Kd.R_base ho0) hb)
                bq238_q4
                have n6_ := Aside0.mk bq8_q4
                have n7_ := Aside0.mk bq9_q4
                have n8_ := Aside0.mk bq10_q4
                have n9_ := Aside0.mk bq19_q4
                have n10_ := Aside0.mk bq24_q4
                have n11_ := Aside0.mk bq11_q4
                bq208_q4
                clear HO_288000
                clear HO_292000
                clear HO_296000
                clear HO_301000
                clear HO304
                clear BK273
                clear BK274
                clear BK287
                clear BK291
                clear BK295
                clear BK300
                clear HB
                have HO_288000 := n0_
                have HO_292000 := n1_
                have HO_296000 := n2_
                have HO_301000 := n3_
                have HO304 := n4_
                have HO308 := n5_
                have BK273 := n6_
                have BK274 := n7_
                have BK287 := n8_
                have BK291 := n9_
                have BK295 := n10_
                have BK300 := n11_
                have HB := n12_
                bq189_q4
                (try clear hb)
                (try clear hb2)
                (try clear hk)
                (try clear hi)
                (try clear ho0)
                obtain ⟨Ao114, co114, eo114⟩ := Kd.R_slice HO308.out
                (first | subst eo114 | (injection eo114 with f1_ f2_ f3_; bq183_q4; subst f4_; subst f5_))
                bq203_q4
                clear hK K
                refine norm_ (a' := ?_) ?_ ?_
                rotate_left
                · show Act.put _ (some 61) _ = _
                  bq154_q4
                  rfl
                bq243_q4
                refine goes_ Try.func13 (by kernel_rfl) rfl #[.agg #[.slice Ao56 t292.length co56], .agg #[.slice Ao114 t306.length co114]] (by rfl) rfl rfl bq5_q4 ?_
                with_reducible refine (laws_eqPoset.calls kj24 _ _ t292 _ _ t306 true _ ?side1 ?side2 ?side3 ?side4 A103.out).mono ?_
                bq101_q4
                (case side2 => exact (Kd.R_reads' HO_296000.out).2.1)
                bq102_q4
                (case side4 => exact (Kd.R_reads' HO308.out).2.1)
                rintro e w115 ⟨rfl, hb⟩
                refine ⟨_, rfl, ?_⟩
                bq178_q4
                bq177_q4
                bq176_q4
                bq175_q4
                bq214_q4
                have n5_ := Aside0.mk (Kd.R_below (by bq2_q4; exact HO308.out) hb)
                have n6_ := Aside0.mk bq8_q4
                have n7_ := Aside0.mk bq9_q4
                have n8_ := Aside0.mk bq10_q4
                have n9_ := Aside0.mk bq19_q4
                have n10_ := Aside0.mk bq24_q4
                have n11_ := Aside0.mk bq11_q4
                bq208_q4
                clear HO_288000
                clear HO_292000
                clear HO_296000
                clear HO_301000
                clear HO304
                clear HO308
                clear BK273
                clear BK274
                clear BK287
                clear BK291
                clear BK295
                clear BK300
                clear HB
                have HO_288000 := n0_
                have HO_292000 := n1_
                have HO_296000 := n2_
                have HO_301000 := n3_
                have HO304 := n4_
                have HO308 := n5_
                have BK273 := n6_
                have BK274 := n7_
                have BK287 := n8_
                have BK291 := n9_
                have BK295 := n10_
                have BK300 := n11_
                have HB := n12_
                bq189_q4
                (try clear hb)
                (try clear hb2)
                (try clear hk)
                (try clear hi)
                bq203_q4
                clear hK K
                refine norm_ (a' := ?_) ?_ ?_
                rotate_left
                · show Act.put _ (some 62) _ = _
                  bq154_q4
                  rfl
                bq229_q4
                rotate_left
                · intro w'
                  go_simp
                  with_reducible rfl
                rotate_left
                · bq154_q4
                  rfl
                refine done_ (by kernel_rfl) ?_
                have hnb116 := NB291_273.out
                have hnc116 := NB273_291.out
                have hnb117 := NB291_274.out
                have hnc117 := NB274_291.out
                have hnb118 := NB291_287.out
                have hnc118 := NB287_291.out
                have hnb119 := NB291_295.out
                have hnc119 := NB295_291.out
                have hnb120 := NB291_300.out
                have hnc120 := NB300_291.out
                have hcz121_0 : w115.cell? ⟨gb291, 0, none⟩ = some (.slice Ao47 t288.length co47) := (blk_cell BK291.out 0).trans rfl
                have hfz121_0 := blk_frozen BK291.out 0
                go_upto_region 21 with (first | (bq108_q4; refine goesL_ (some 66) rfl rfl Try.func14 (by kernel_rfl) rfl #[.agg #[.slice Ao47 t288.length co47], .int .i64 1] rfl bq5_q4 ?_; (with_reducible refine (laws_markPoset.calls kj24 (fun k_ => some k_ = (.slice Ao47 t288.length co47 : Value).ownBlock) (.slice Ao47 t288.length co47) t288 1 t310 t311 w _ ?side1 ?side2 A105.out).mono ?_); (case side1 => repeat bq3_q4); (case side2 => exact Kd.R_tight rfl HO_292000.out); rintro e w122 ⟨rfl, hy0, hb, hkp⟩; refine ⟨_, rfl, ?_⟩; have n0_ := Aside0.mk (Kd.R_mono (ok' := fun k_ => some k_ ≠ (.slice Ao47 t288.length co47 : Value).ownBlock ∧ some k_ ≠ (.slice Ao56 t292.length co56 : Value).ownBlock ∧ some k_ ≠ (.slice Ao65 t296.length co65 : Value).ownBlock ∧ some k_ ≠ (.slice Ao110 t302.length co110 : Value).ownBlock ∧ some k_ ≠ (.slice Ao114 t306.length co114 : Value).ownBlock) (Kd.R_keptB (HO_288000.out) hkp (fun k_ hk_ hs_ => (hk_.1.1.1) hs_)) (fun k_ hk_ => ⟨hk_.1.1.1.1, hk_.1.1.1.2.1, hk_.1.1.1.2.2, hk_.1.1.2, hk_.1.2⟩)); have n1_ := Aside0.mk (Kd.R_reok rfl hy0 (fun k_ e_ => HO_292000.out.1 k_ e_)); have n2_ := Aside0.mk (Kd.R_mono (ok' := fun k_ => some k_ ≠ (.slice Ao41 t283.length co41 : Value).ownBlock ∧ some k_ ≠ (.slice Ao47 t288.length co47 : Value).ownBlock ∧ some k_ ≠ (.slice Ao65 t296.length co65 : Value).ownBlock ∧ some k_ ≠ (.slice Ao110 t302.length co110 : Value).ownBlock ∧ some k_ ≠ (.slice Ao114 t306.length co114 : Value).ownBlock) (Kd.R_keptB (HO_296000.out) hkp (fun k_ hk_ hs_ => (hk_.1.1.2.1) hs_)) (fun k_ hk_ => ⟨hk_.1.1.1.1, hk_.1.1.1.2.1, hk_.1.1.1.2.2, hk_.1.1.2, hk_.1.2⟩)); have n3_ := Aside0.mk (Kd.R_mono (ok' := fun k_ => some k_ ≠ (.slice Ao41 t283.length co41 : Value).ownBlock ∧ some k_ ≠ (.slice Ao47 t288.length co47 : Value).ownBlock ∧ some k_ ≠ (.slice Ao56 t292.length co56 : Value).ownBlock ∧ some k_ ≠ (.slice Ao110 t302.length co110 : Value).ownBlock ∧ some k_ ≠ (.slice Ao114 t306.length co114 : Value).ownBlock) (Kd.R_keptB (HO_301000.out) hkp (fun k_ hk_ hs_ => (hk_.1.1.2.1) hs_)) (fun k_ hk_ => ⟨hk_.1.1.1.1, hk_.1.1.1.2.1, hk_.1.1.1.2.2, hk_.1.1.2, hk_.1.2⟩)); have n4_ := Aside0.mk (blk_kept (by bq1_q4; exact BK273.out) hkp (fun hs_ => (fun e_ => (Kd.R_ne HO_292000.out BK273.out (by decide)) e_) hs_)); have n5_ := Aside0.mk (blk_kept (by bq1_q4; exact BK274.out) hkp (fun hs_ => (fun e_ => (Kd.R_ne HO_292000.out BK274.out (by decide)) e_) hs_)); have n6_ := Aside0.mk (blk_kept (by bq1_q4; exact BK287.out) hkp (fun hs_ => (fun e_ => (Kd.R_ne HO_292000.out BK287.out (by decide)) e_) hs_)); have n7_ := Aside0.mk (blk_kept (by bq1_q4; exact BK291.out) hkp (fun hs_ => (fun e_ => (Kd.R_ne HO_292000.out BK291.out (by decide)) e_) hs_)); have n8_ := Aside0.mk (blk_kept (by bq1_q4; exact BK295.out) hkp (fun hs_ => (fun e_ => (Kd.R_ne HO_292000.out BK295.out (by decide)) e_) hs_)); have n9_ := Aside0.mk (blk_kept (by bq1_q4; exact BK300.out) hkp (fun hs_ => (fun e_ => (Kd.R_ne HO_292000.out BK300.out (by decide)) e_) hs_)); have n10_ := Aside0.mk (Kd.R_mono (ok' := fun k_ => some k_ ≠ (.slice Ao41 t283.length co41 : Value).ownBlock ∧ some k_ ≠ (.slice Ao47 t288.length co47 : Value).ownBlock ∧ some k_ ≠ (.slice Ao56 t292.length co56 : Value).ownBlock ∧ some k_ ≠ (.slice Ao65 t296.length co65 : Value).ownBlock ∧ some k_ ≠ (.slice Ao114 t306.length co114 : Value).ownBlock) (Kd.R_keptB (HO304.out) hkp (fun k_ hk_ hs_ => (hk_.1.1.1.2) hs_)) (fun k_ hk_ => ⟨hk_.1.1.1.1.1.2, hk_.1.1.1.1.2, hk_.1.1.1.2, hk_.1.1.2, hk_.1.2⟩)); have n11_ := Aside0.mk (Kd.R_mono (ok' := fun k_ => some k_ ≠ (.slice Ao41 t283.length co41 : Value).ownBlock ∧ some k_ ≠ (.slice Ao47 t288.length co47 : Value).ownBlock ∧ some k_ ≠ (.slice Ao56 t292.length co56 : Value).ownBlock ∧ some k_ ≠ (.slice Ao65 t296.length co65 : Value).ownBlock ∧ some k_ ≠ (.slice Ao110 t302.length co110 : Value).ownBlock) (Kd.R_keptB (HO308.out) hkp (fun k_ hk_ hs_ => (hk_.1.1.1.2) hs_)) (fun k_ hk_ => ⟨hk_.1.1.1.1.1.2, hk_.1.1.1.1.2, hk_.1.1.1.2, hk_.1.1.2, hk_.1.2⟩)); have n12_ := Aside0.mk (hb); bq220_q4; bq163_q4; clear BK300; clear HO304; clear HO308; bq172_q4; bq228_q4; bq189_q4; (try clear hb); (try clear hkp); (try clear hy0); have hnb123 := NB295_273.out; have hnc123 := NB273_295.out; have hnb124 := NB295_274.out; have hnc124 := NB274_295.out; have hnb125 := NB295_287.out; have hnc125 := NB287_295.out; have hnb126 := NB295_300.out; have hnc126 := NB300_295.out; have hcz127_0 : w122.cell? ⟨gb295, 0, none⟩ = some (.slice Ao56 t292.length co56) := (blk_cell BK295.out 0).trans rfl; have hfz127_0 := blk_frozen BK295.out 0) | (bq108_q4; refine goesL_ (some 69) rfl rfl Try.func14 (by kernel_rfl) rfl #[.agg #[.slice Ao56 t292.length co56], .int .i64 t310] rfl bq5_q4 ?_; (with_reducible refine (laws_markPoset.calls kj24 (fun k_ => some k_ = (.slice Ao56 t292.length co56 : Value).ownBlock) (.slice Ao56 t292.length co56) t292 t310 t312 t313 w _ ?side1 ?side2 A106.out).mono ?_); (case side1 => repeat bq3_q4); (case side2 => exact Kd.R_tight rfl HO_296000.out); rintro e w128 ⟨rfl, hy0, hb, hkp⟩; refine ⟨_, rfl, ?_⟩; have n0_ := Aside0.mk (Kd.R_mono (ok' := fun k_ => some k_ ≠ (.slice Ao47 t288.length co47 : Value).ownBlock ∧ some k_ ≠ (.slice Ao56 t292.length co56 : Value).ownBlock ∧ some k_ ≠ (.slice Ao65 t296.length co65 : Value).ownBlock ∧ some k_ ≠ (.slice Ao110 t302.length co110 : Value).ownBlock ∧ some k_ ≠ (.slice Ao114 t306.length co114 : Value).ownBlock) (Kd.R_keptB (HO_288000.out) hkp (fun k_ hk_ hs_ => (hk_.2.1) hs_)) (fun k_ hk_ => ⟨hk_.1.1, hk_.1.2.1, hk_.1.2.2.1, hk_.1.2.2.2.1, hk_.1.2.2.2.2⟩)); have n1_ := Aside0.mk (Kd.R_mono (ok' := fun k_ => some k_ ≠ (.slice Ao41 t283.length co41 : Value).ownBlock ∧ some k_ ≠ (.slice Ao56 t292.length co56 : Value).ownBlock ∧ some k_ ≠ (.slice Ao65 t296.length co65 : Value).ownBlock ∧ some k_ ≠ (.slice Ao110 t302.length co110 : Value).ownBlock ∧ some k_ ≠ (.slice Ao114 t306.length co114 : Value).ownBlock) (Kd.R_keptB (HO_292000.out) hkp (fun k_ hk_ hs_ => (hk_.1.1.2.1) hs_)) (fun k_ hk_ => ⟨hk_.1.1.1.1, hk_.1.1.1.2.1, hk_.1.1.1.2.2, hk_.1.1.2, hk_.1.2⟩)); have n2_ := Aside0.mk (Kd.R_reok rfl hy0 (fun k_ e_ => HO_296000.out.1 k_ e_)); have n3_ := Aside0.mk (Kd.R_mono (ok' := fun k_ => some k_ ≠ (.slice Ao41 t283.length co41 : Value).ownBlock ∧ some k_ ≠ (.slice Ao47 t288.length co47 : Value).ownBlock ∧ some k_ ≠ (.slice Ao56 t292.length co56 : Value).ownBlock ∧ some k_ ≠ (.slice Ao110 t302.length co110 : Value).ownBlock ∧ some k_ ≠ (.slice Ao114 t306.length co114 : Value).ownBlock) (Kd.R_keptB (HO_301000.out) hkp (fun k_ hk_ hs_ => (hk_.2.2.1) hs_)) (fun k_ hk_ => ⟨hk_.1.1, hk_.1.2.1, hk_.1.2.2.1, hk_.1.2.2.2.1, hk_.1.2.2.2.2⟩)); have n4_ := Aside0.mk (blk_kept (by bq1_q4; exact BK273.out) hkp (fun hs_ => (fun e_ => (Kd.R_ne HO_296000.out BK273.out (by decide)) e_) hs_)); have n5_ := Aside0.mk (blk_kept (by bq1_q4; exact BK274.out) hkp (fun hs_ => (fun e_ => (Kd.R_ne HO_296000.out BK274.out (by decide)) e_) hs_)); have n6_ := Aside0.mk (blk_kept (by bq1_q4; exact BK287.out) hkp (fun hs_ => (fun e_ => (Kd.R_ne HO_296000.out BK287.out (by decide)) e_) hs_)); have n7_ := Aside0.mk (blk_kept (by bq1_q4; exact BK291.out) hkp (fun hs_ => (fun e_ => (Kd.R_ne HO_296000.out BK291.out (by decide)) e_) hs_)); have n8_ := Aside0.mk (blk_kept (by bq1_q4; exact BK295.out) hkp (fun hs_ => (fun e_ => (Kd.R_ne HO_296000.out BK295.out (by decide)) e_) hs_)); have n9_ := Aside0.mk (blk_kept (by bq1_q4; exact BK300.out) hkp (fun hs_ => (fun e_ => (Kd.R_ne HO_296000.out BK300.out (by decide)) e_) hs_)); have n10_ := Aside0.mk (Kd.R_mono (ok' := fun k_ => some k_ ≠ (.slice Ao41 t283.length co41 : Value).ownBlock ∧ some k_ ≠ (.slice Ao47 t288.length co47 : Value).ownBlock ∧ some k_ ≠ (.slice Ao56 t292.length co56 : Value).ownBlock ∧ some k_ ≠ (.slice Ao65 t296.length co65 : Value).ownBlock ∧ some k_ ≠ (.slice Ao114 t306.length co114 : Value).ownBlock) (Kd.R_keptB (HO304.out) hkp (fun k_ hk_ hs_ => (hk_.2.2.1) hs_)) (fun k_ hk_ => ⟨hk_.1.1, hk_.1.2.1, hk_.1.2.2.1, hk_.1.2.2.2.1, hk_.1.2.2.2.2⟩)); have n11_ := Aside0.mk (Kd.R_mono (ok' := fun k_ => some k_ ≠ (.slice Ao41 t283.length co41 : Value).ownBlock ∧ some k_ ≠ (.slice Ao47 t288.length co47 : Value).ownBlock ∧ some k_ ≠ (.slice Ao56 t292.length co56 : Value).ownBlock ∧ some k_ ≠ (.slice Ao65 t296.length co65 : Value).ownBlock ∧ some k_ ≠ (.slice Ao110 t302.length co110 : Value).ownBlock) (Kd.R_keptB (HO308.out) hkp (fun k_ hk_ hs_ => (hk_.2.2.1) hs_)) (fun k_ hk_ => ⟨hk_.1.1, hk_.1.2.1, hk_.1.2.2.1, hk_.1.2.2.2.1, hk_.1.2.2.2.2⟩)); have n12_ := Aside0.mk (hb); bq220_q4; bq163_q4; clear BK300; clear HO304; clear HO308; bq172_q4; bq228_q4; bq189_q4; (try clear hb); (try clear hkp); (try clear hy0)))
                (try simp only [Act.put, List.setIfInBounds_toArray, List.set_cons_zero, List.set_cons_succ])
                go_cut [82] (fun v82 wc => ∃ (kq : Nat) (x82_106 : Bool), v82 = .bool x82_106 ∧ Aside0 (laws_FnExactStackOf.j1 kq t286 x82_106 l0_0 l1_0 t283 t296 = some r) ∧ Aside0 (kq ≤ kj24) ∧ Aside0 (Kd.R (Kd.int .i64) 3 wc w.heap.size (fun k_ => some k_ ≠ ((.slice Ao47 t288.length co47) : Value).ownBlock ∧ some k_ ≠ ((.slice Ao56 t292.length co56) : Value).ownBlock ∧ some k_ ≠ ((.slice Ao65 t296.length co65) : Value).ownBlock) (.slice Ao41 t283.length co41) t283) ∧ Aside0 (Kd.R (Kd.int .i64) 3 wc w.heap.size (fun k_ => some k_ ≠ ((.slice Ao41 t283.length co41) : Value).ownBlock ∧ some k_ ≠ ((.slice Ao56 t292.length co56) : Value).ownBlock ∧ some k_ ≠ ((.slice Ao65 t296.length co65) : Value).ownBlock) (.slice Ao47 t288.length co47) t311) ∧ Aside0 (Kd.R (Kd.int .i64) 3 wc w.heap.size (fun k_ => some k_ ≠ ((.slice Ao41 t283.length co41) : Value).ownBlock ∧ some k_ ≠ ((.slice Ao47 t288.length co47) : Value).ownBlock ∧ some k_ ≠ ((.slice Ao65 t296.length co65) : Value).ownBlock) (.slice Ao56 t292.length co56) t313) ∧ Aside0 (Kd.R (Kd.int .i64) 3 wc w.heap.size (fun k_ => some k_ ≠ ((.slice Ao41 t283.length co41) : Value).ownBlock ∧ some k_ ≠ ((.slice Ao47 t288.length co47) : Value).ownBlock ∧ some k_ ≠ ((.slice Ao56 t292.length co56) : Value).ownBlock) (.slice Ao65 t296.length co65) t296) ∧ Aside0 (wc.heap[gb273]? = some (.cells #[(.slice A0_0 l0_0.length c0_0)] 24 (0, 0))) ∧ Aside0 (wc.heap[gb274]? = some (.cells #[(.slice A1_0 l1_0.length c1_0)] 24 (0, 0))) ∧ Aside0 (wc.heap[gb287]? = some (.cells #[(.slice Ao41 t283.length co41)] 26 (0, 0))) ∧ Aside0 (wc.heap[gb291]? = some (.cells #[(.slice Ao47 t288.length co47)] 26 (0, 0))) ∧ Aside0 (wc.heap[gb295]? = some (.cells #[(.slice Ao56 t292.length co56)] 26 (0, 0))) ∧ Aside0 (wc.heap[gb300]? = some (.cells #[(.slice Ao65 t296.length co65)] 26 (0, 0))) ∧ Aside0 (Below w.heap.size w wc))
                case first =>
                  have H := HC107.out
                  clear HC107
                  by_cases c129 : t312 < 0
                  · rw [if_pos c129] at H
                    have c129b0 : decide (t312 < 0) = true := decide_eq_true c129
                    clear c129
                    (first | rw [c129b0] | (simp only [i64_w, i32_w]; rw [c129b0]) | skip)
                    have H' := Aside0.mk H
                    clear H
                    go_wp2
                    go_meet
                    case rel => exact ⟨_, (true), (by first | rfl | (simp; done) | (simp [*]; done)), H', ⟨by have := HJ24.out; first | omega | exact Nat.le_refl _⟩, ⟨by bq2_q4; exact Kd.R_mono HO_288000.out (fun _ hk => ⟨hk.1, ⟨hk.2.1, hk.2.2.1⟩⟩)⟩, ⟨by bq2_q4; exact Kd.R_mono HO_292000.out (fun _ hk => ⟨hk.1, ⟨hk.2.1, hk.2.2.1⟩⟩)⟩, ⟨by bq2_q4; exact Kd.R_mono HO_296000.out (fun _ hk => ⟨hk.1, ⟨hk.2.1, hk.2.2.1⟩⟩)⟩, ⟨by bq2_q4; exact Kd.R_mono HO_301000.out (fun _ hk => ⟨hk.1, ⟨hk.2.1, hk.2.2.1⟩⟩)⟩, ⟨by bq1_q4; exact BK273.out⟩, ⟨by bq1_q4; exact BK274.out⟩, ⟨by bq1_q4; exact BK287.out⟩, ⟨by bq1_q4; exact BK291.out⟩, ⟨by bq1_q4; exact BK295.out⟩, ⟨by bq1_q4; exact BK300.out⟩, ⟨by repeat bq3_q4⟩⟩
                  · rw [if_neg c129] at H
                    have c129b0 : decide (t312 < 0) = false := decide_eq_false c129
                    clear c129
                    (first | rw [c129b0] | (simp only [i64_w, i32_w]; rw [c129b0]) | skip)
                    replace H := Option.bind_eq_some_iff.mp H
                    obtain ⟨t314, A1300, H⟩ := H
                    replace H : (if t314 = true then (laws_FnExactStackOf.j1 kj24 t286 (t299 != t286) l0_0 l1_0 t283 t296) else (laws_FnExactStackOf.j1 kj24 t286 true l0_0 l1_0 t283 t296)) = some r := H
                    have A130 := Aside0.mk A1300
                    clear A1300
                    by_cases c131 : t314 = true
                    · subst c131
                      have H1 : (laws_FnExactStackOf.j1 kj24 t286 (t299 != t286) l0_0 l1_0 t283 t296) = some r := by rw [if_pos rfl] at H; exact H
                      clear H
                      have H := H1
                      clear H1
                      have H' := Aside0.mk H
                      clear H
                      have hnb132 := NB300_273.out
                      have hnc132 := NB273_300.out
                      have hnb133 := NB300_274.out
                      have hnc133 := NB274_300.out
                      have hnb134 := NB300_287.out
                      have hnc134 := NB287_300.out
                      have hnb135 := NB300_291.out
                      have hnc135 := NB291_300.out
                      have hnb136 := NB300_295.out
                      have hnc136 := NB295_300.out
                      have hcz137_0 : w128.cell? ⟨gb300, 0, none⟩ = some (.slice Ao65 t296.length co65) := (blk_cell BK300.out 0).trans rfl
                      have hfz137_0 := blk_frozen BK300.out 0
                      have hnb138 := NB287_273.out
                      have hnc138 := NB273_287.out
                      have hnb139 := NB287_274.out
                      have hnc139 := NB274_287.out
                      have hnb140 := NB287_291.out
                      have hnc140 := NB291_287.out
                      have hnb141 := NB287_295.out
                      have hnc141 := NB295_287.out
                      have hcz142_0 : w128.cell? ⟨gb287, 0, none⟩ = some (.slice Ao41 t283.length co41) := (blk_cell BK287.out 0).trans rfl
                      have hfz142_0 := blk_frozen BK287.out 0
                      go_wp2_with (first | (go_at_call 13; (with_reducible refine (laws_eqPoset.calls kj24 _ _ t296 _ _ t283 true _ ?side1 ?side2 ?side3 ?side4 A130.out).mono ?_); bq20_q4; bq103_q4; bq100_q4; bq151_q4; rintro e w143 ⟨rfl, hb⟩; bq156_q4; bq181_q4; bq160_q4; bq233_q4; bq165_q4))
                      go_meet
                      case rel => exact ⟨_, ((t299 != t286)), (by first | rfl | (simp; done) | (simp [*]; done)), H', ⟨by have := HJ24.out; first | omega | exact Nat.le_refl _⟩, ⟨by bq2_q4; exact Kd.R_mono HO_288000.out (fun _ hk => ⟨hk.1, ⟨hk.2.1, hk.2.2.1⟩⟩)⟩, ⟨by bq2_q4; exact Kd.R_mono HO_292000.out (fun _ hk => ⟨hk.1, ⟨hk.2.1, hk.2.2.1⟩⟩)⟩, ⟨by bq2_q4; exact Kd.R_mono HO_296000.out (fun _ hk => ⟨hk.1, ⟨hk.2.1, hk.2.2.1⟩⟩)⟩, ⟨by bq2_q4; exact Kd.R_mono HO_301000.out (fun _ hk => ⟨hk.1, ⟨hk.2.1, hk.2.2.1⟩⟩)⟩, ⟨by bq1_q4; exact BK273.out⟩, ⟨by bq1_q4; exact BK274.out⟩, ⟨by bq1_q4; exact BK287.out⟩, ⟨by bq1_q4; exact BK291.out⟩, ⟨by bq1_q4; exact BK295.out⟩, ⟨by bq1_q4; exact BK300.out⟩, ⟨by repeat bq3_q4⟩⟩
                    · replace c131 := Bool.eq_false_iff.mpr c131
                      subst c131
                      have H1 : (laws_FnExactStackOf.j1 kj24 t286 true l0_0 l1_0 t283 t296) = some r := by rw [if_neg (show ¬ (false = true) by decide)] at H; exact H
                      clear H
                      have H := H1
                      clear H1
                      have H' := Aside0.mk H
                      clear H
                      have hnb144 := NB300_273.out
                      have hnc144 := NB273_300.out
                      have hnb145 := NB300_274.out
                      have hnc145 := NB274_300.out
                      have hnb146 := NB300_287.out
                      have hnc146 := NB287_300.out
                      have hnb147 := NB300_291.out
                      have hnc147 := NB291_300.out
                      have hnb148 := NB300_295.out
                      have hnc148 := NB295_300.out
                      have hcz149_0 : w128.cell? ⟨gb300, 0, none⟩ = some (.slice Ao65 t296.length co65) := (blk_cell BK300.out 0).trans rfl
                      have hfz149_0 := blk_frozen BK300.out 0
                      have hnb150 := NB287_273.out
                      have hnc150 := NB273_287.out
                      have hnb151 := NB287_274.out
                      have hnc151 := NB274_287.out
                      have hnb152 := NB287_291.out
                      have hnc152 := NB291_287.out
                      have hnb153 := NB287_295.out
                      have hnc153 := NB295_287.out
                      have hcz154_0 : w128.cell? ⟨gb287, 0, none⟩ = some (.slice Ao41 t283.length co41) := (blk_cell BK287.out 0).trans rfl
                      have hfz154_0 := blk_frozen BK287.out 0
                      go_wp2_with (first | (go_at_call 13; (with_reducible refine (laws_eqPoset.calls kj24 _ _ t296 _ _ t283 false _ ?side1 ?side2 ?side3 ?side4 A130.out).mono ?_); bq20_q4; bq103_q4; bq100_q4; bq151_q4; rintro e w155 ⟨rfl, hb⟩; bq156_q4; bq181_q4; bq160_q4; bq233_q4; bq165_q4))
                      go_meet
                      case rel => exact ⟨_, (true), (by first | rfl | (simp; done) | (simp [*]; done)), H', ⟨by have := HJ24.out; first | omega | exact Nat.le_refl _⟩, ⟨by bq2_q4; exact Kd.R_mono HO_288000.out (fun _ hk => ⟨hk.1, ⟨hk.2.1, hk.2.2.1⟩⟩)⟩, ⟨by bq2_q4; exact Kd.R_mono HO_292000.out (fun _ hk => ⟨hk.1, ⟨hk.2.1, hk.2.2.1⟩⟩)⟩, ⟨by bq2_q4; exact Kd.R_mono HO_296000.out (fun _ hk => ⟨hk.1, ⟨hk.2.1, hk.2.2.1⟩⟩)⟩, ⟨by bq2_q4; exact Kd.R_mono HO_301000.out (fun _ hk => ⟨hk.1, ⟨hk.2.1, hk.2.2.1⟩⟩)⟩, ⟨by bq1_q4; exact BK273.out⟩, ⟨by bq1_q4; exact BK274.out⟩, ⟨by bq1_q4; exact BK287.out⟩, ⟨by bq1_q4; exact BK291.out⟩, ⟨by bq1_q4; exact BK295.out⟩, ⟨by bq1_q4; exact BK300.out⟩, ⟨by repeat bq3_q4⟩⟩
                case rest =>
                  clear HC107
                  try clear c1
                  try clear p2
                  try clear c4
                  try clear c5
                  try clear c6
                  try clear c7
                  try clear c8
                  try clear c9
                  try clear c10
                  try clear c11
                  try clear c12
                  try clear c13
                  try clear c14
                  try clear c15
                  try clear c16
                  try clear c17
                  try clear c43
                  try clear c48
                  try clear c49
                  try clear c50
                  try clear c52
                  try clear c57
                  try clear c58
                  try clear c59
                  try clear c60
                  try clear c66
                  try clear c67
                  try clear c68
                  try clear c69
                  try clear c70
                  try clear c73
                  try clear c74
                  try clear c75
                  try clear c76
                  try clear c77
                  try clear c78
                  try clear c80
                  try clear c81
                  try clear c82
                  try clear c83
                  try clear c86
                  try clear c87
                  try clear c88
                  try clear c89
                  try clear c90
                  try clear c92
                  try clear c93
                  try clear c94
                  try clear c95
                  try clear c98
                  try clear c101
                  try clear c104
                  try clear c116
                  try clear c117
                  try clear c118
                  try clear c119
                  try clear c120
                  try clear c123
                  try clear c124
                  try clear c125
                  try clear c126
                  try clear c129
                  try clear c129b0
                  try clear c131
                  try clear c132
                  try clear c133
                  try clear c134
                  try clear c135
                  try clear c136
                  try clear c138
                  try clear c139
                  try clear c140
                  try clear c141
                  try clear c144
                  try clear c145
                  try clear c146
                  try clear c147
                  try clear c148
                  try clear c150
                  try clear c151
                  try clear c152
                  try clear c153
                  try clear hcz121_0
                  try clear hcz127_0
                  try clear hcz137_0
                  try clear hcz142_0
                  try clear hcz149_0
                  try clear hcz154_0
                  try clear hcz44_0
                  try clear hcz51_0
                  try clear hcz53_0
                  try clear hcz61_0
                  try clear hcz62_0
                  try clear hcz71_0
                  try clear hcz79_0
                  try clear hcz84_0
                  try clear hcz91_0
                  try clear hcz96_0
                  try clear hfz121_0
                  try clear hfz127_0
                  try clear hfz137_0
                  try clear hfz142_0
                  try clear hfz149_0
                  try clear hfz154_0
                  try clear hfz44_0
                  try clear hfz51_0
                  try clear hfz53_0
                  try clear hfz61_0
                  try clear hfz62_0
                  try clear hfz71_0
                  try clear hfz79_0
                  try clear hfz84_0
                  try clear hfz91_0
                  try clear hfz96_0
                  try clear p2
                  obtain ⟨kq, x82_106, rfl, HA, HJ106, HO_288000, HO_292000, HO_296000, HO_301000, BK273, BK274, BK287, BK291, BK295, BK300, HB⟩ := hcut
                  have hl292000_106 := (Kd.R_reads' HO_292000.out).1
                  rw [hl292000_106] at HO_292000
                  (try simp only [hl292000_106])
                  (try simp only [hl292000_106] at BK273)
                  (try simp only [hl292000_106] at BK274)
                  (try simp only [hl292000_106] at BK287)
                  (try simp only [hl292000_106] at BK291)
                  (try simp only [hl292000_106] at BK295)
                  (try simp only [hl292000_106] at BK300)
                  (try simp only [hl292000_106] at HO_288000)
                  (try simp only [hl292000_106] at HO_296000)
                  (try simp only [hl292000_106] at HO_301000)
                  have hl296000_106 := (Kd.R_reads' HO_296000.out).1
                  rw [hl296000_106] at HO_296000
                  (try simp only [hl296000_106])
                  (try simp only [hl296000_106] at BK273)
                  (try simp only [hl296000_106] at BK274)
                  (try simp only [hl296000_106] at BK287)
                  (try simp only [hl296000_106] at BK291)
                  (try simp only [hl296000_106] at BK295)
                  (try simp only [hl296000_106] at BK300)
                  (try simp only [hl296000_106] at HO_288000)
                  (try simp only [hl296000_106] at HO_292000)
                  (try simp only [hl296000_106] at HO_301000)
                  cases kq with
                  | zero => exact absurd HA.out (by simp [laws_FnExactStackOf.j1])
                  | succ kj106 =>
                    have H := HA.out
                    clear HA
                    simp only [laws_FnExactStackOf.j1] at H
                    by_cases c156 : x82_106 = true
                    · subst c156
                      bq236_q4
                      clear H
                      have H := H1
                      clear H1
                      obtain rfl := Option.some.inj H
                      go_wp2
                      go_ret
                      bq171_q4
                    · replace c156 := Bool.eq_false_iff.mpr c156
                      subst c156
                      have H1 : ((laws_markPoset.f kj106 t296 1).bind fun bt315 => ((laws_heldPoset.f kj106 bt315.2 1).bind fun t317 => (if t317 < 0 then (some false) else (if t317 = bt315.1 then ((laws_toPoset.f kj106 l0_0).bind fun t318 => ((laws_toPoset.f kj106 l1_0).bind fun t321 => ((impl_StackOf.f kj106 t318 t321).bind fun bt324 => ((laws_eqPoset.f kj106 bt324.1 t283).bind fun t329 => (if t329 = true then (laws_FnExactStackOf.j2 kj106 bt315.1 (bt324.2 != t286) bt315.2) else (laws_FnExactStackOf.j2 kj106 bt315.1 true bt315.2)))))) else (some false))))) = some r := by rw [if_neg (show ¬ (false = true) by decide)] at H; exact H
                      clear H
                      have H := H1
                      clear H1
                      replace H := Option.bind_eq_some_iff.mp H
                      obtain ⟨⟨t315, t316⟩, A1570, H⟩ := H
                      replace H : ((laws_heldPoset.f kj106 t316 1).bind fun t317 => (if t317 < 0 then (some false) else (if t317 = t315 then ((laws_toPoset.f kj106 l0_0).bind fun t318 => ((laws_toPoset.f kj106 l1_0).bind fun t321 => ((impl_StackOf.f kj106 t318 t321).bind fun bt324 => ((laws_eqPoset.f kj106 bt324.1 t283).bind fun t329 => (if t329 = true then (laws_FnExactStackOf.j2 kj106 t315 (bt324.2 != t286) t316) else (laws_FnExactStackOf.j2 kj106 t315 true t316)))))) else (some false)))) = some r := H
                      have A157 := Aside0.mk A1570
                      clear A1570
                      replace H := Option.bind_eq_some_iff.mp H
                      obtain ⟨t317, A1580, H⟩ := H
                      replace H : (if t317 < 0 then (some false) else (if t317 = t315 then ((laws_toPoset.f kj106 l0_0).bind fun t318 => ((laws_toPoset.f kj106 l1_0).bind fun t321 => ((impl_StackOf.f kj106 t318 t321).bind fun bt324 => ((laws_eqPoset.f kj106 bt324.1 t283).bind fun t329 => (if t329 = true then (laws_FnExactStackOf.j2 kj106 t315 (bt324.2 != t286) t316) else (laws_FnExactStackOf.j2 kj106 t315 true t316)))))) else (some false))) = some r := H
                      have A158 := Aside0.mk A1580
                      clear A1580
                      by_cases c159 : t317 < 0
                      · rw [if_pos c159] at H
                        have c159b0 : decide (t317 < 0) = true := decide_eq_true c159
                        clear c159
                        obtain rfl := Option.some.inj H
                        have hnb160 := NB300_273.out
                        have hnc160 := NB273_300.out
                        have hnb161 := NB300_274.out
                        have hnc161 := NB274_300.out
                        have hnb162 := NB300_287.out
                        have hnc162 := NB287_300.out
                        have hnb163 := NB300_291.out
                        have hnc163 := NB291_300.out
                        have hnb164 := NB300_295.out
                        have hnc164 := NB295_300.out
                        have hcz165_0 : wc.cell? ⟨gb300, 0, none⟩ = some (.slice Ao65 t296.length co65) := (blk_cell BK300.out 0).trans rfl
                        have hfz165_0 := blk_frozen BK300.out 0
                        go_wp2_with (first | (bq108_q4; bq212_q4; bq54_q4; bq232_q4; rintro e w166 ⟨rfl, hy0, hb, hkp⟩; bq162_q4; clear HO_301000; bq163_q4; bq157_q4; (try clear hkp); (try clear hy0); have hcz167_0 : w166.cell? ⟨gb300, 0, none⟩ = some (.slice Ao65 t296.length co65) := (blk_cell BK300.out 0).trans rfl; have hfz167_0 := blk_frozen BK300.out 0) | (bq82_q4; bq209_q4; bq99_q4; bq20_q4; bq75_q4; rintro e w168 ⟨rfl, hb⟩; refine ⟨_, rfl, ?_⟩; bq156_q4; bq170_q4; bq163_q4; bq157_q4; bq206_q4))
                        go_ret
                        bq171_q4
                      · rw [if_neg c159] at H
                        have c159b0 : decide (t317 < 0) = false := decide_eq_false c159
                        clear c159
                        by_cases c169 : t317 = t315
                        · rw [if_pos c169] at H
                          have c169b0 : (t317 == t315) = true := beq_iff_eq.mpr c169
                          have c169b1 : (t317 != t315) = false := bne_eq_false_iff_eq.mpr c169
                          clear c169
                          replace H := Option.bind_eq_some_iff.mp H
                          obtain ⟨t318, A1700, H⟩ := H
                          replace H : ((laws_toPoset.f kj106 l1_0).bind fun t321 => ((impl_StackOf.f kj106 t318 t321).bind fun bt324 => ((laws_eqPoset.f kj106 bt324.1 t283).bind fun t329 => (if t329 = true then (laws_FnExactStackOf.j2 kj106 t315 (bt324.2 != t286) t316) else (laws_FnExactStackOf.j2 kj106 t315 true t316))))) = some r := H
                          have A170 := Aside0.mk A1700
                          clear A1700
                          replace H := Option.bind_eq_some_iff.mp H
                          obtain ⟨t321, A1710, H⟩ := H
                          replace H : ((impl_StackOf.f kj106 t318 t321).bind fun bt324 => ((laws_eqPoset.f kj106 bt324.1 t283).bind fun t329 => (if t329 = true then (laws_FnExactStackOf.j2 kj106 t315 (bt324.2 != t286) t316) else (laws_FnExactStackOf.j2 kj106 t315 true t316)))) = some r := H
                          have A171 := Aside0.mk A1710
                          clear A1710
                          replace H := Option.bind_eq_some_iff.mp H
                          obtain ⟨⟨t324, t327⟩, A1720, H⟩ := H
                          replace H : ((laws_eqPoset.f kj106 t324 t283).bind fun t329 => (if t329 = true then (laws_FnExactStackOf.j2 kj106 t315 (t327 != t286) t316) else (laws_FnExactStackOf.j2 kj106 t315 true t316))) = some r := H
                          have A172 := Aside0.mk A1720
                          clear A1720
                          have HC173 := Aside0.mk H
                          clear H
                          have hnb174 := NB300_273.out
                          have hnc174 := NB273_300.out
                          have hnb175 := NB300_274.out
                          have hnc175 := NB274_300.out
                          have hnb176 := NB300_287.out
                          have hnc176 := NB287_300.out
                          have hnb177 := NB300_291.out
                          have hnc177 := NB291_300.out
                          have hnb178 := NB300_295.out
                          have hnc178 := NB295_300.out
                          have hcz179_0 : wc.cell? ⟨gb300, 0, none⟩ = some (.slice Ao65 t296.length co65) := (blk_cell BK300.out 0).trans rfl
                          have hfz179_0 := blk_frozen BK300.out 0
                          try go_wp2_with (first | (bq108_q4; bq212_q4; bq54_q4; bq232_q4; rintro e w180 ⟨rfl, hy0, hb, hkp⟩; bq162_q4; clear HO_301000; bq163_q4; bq157_q4; (try clear hkp); (try clear hy0); have hcz181_0 : w180.cell? ⟨gb300, 0, none⟩ = some (.slice Ao65 t296.length co65) := (blk_cell BK300.out 0).trans rfl; have hfz181_0 := blk_frozen BK300.out 0) | (bq82_q4; bq209_q4; bq99_q4; bq20_q4; bq75_q4; rintro e w182 ⟨rfl, hb⟩; refine ⟨_, rfl, ?_⟩; bq156_q4; bq170_q4; bq163_q4; bq157_q4; bq206_q4))
                          have n0_ := Aside0.mk (Kd.R_drew HO_288000.out)
                          have n1_ := Aside0.mk (Kd.R_drew HO_292000.out)
                          have n2_ := Aside0.mk (Kd.R_drew HO_296000.out)
                          have n3_ := Aside0.mk (Kd.R_drew HO_301000.out)
                          have n4_ := Aside0.mk (blk_drew BK273.out)
                          have n5_ := Aside0.mk (blk_drew BK274.out)
                          have n6_ := Aside0.mk (blk_drew BK287.out)
                          have n7_ := Aside0.mk (blk_drew BK291.out)
                          have n8_ := Aside0.mk (blk_drew BK295.out)
                          have n9_ := Aside0.mk (blk_drew BK300.out)
                          have n10_ := Aside0.mk (below_drew1 HB.out)
                          clear HO_288000
                          clear HO_292000
                          clear HO_296000
                          clear HO_301000
                          clear BK273
                          clear BK274
                          clear BK287
                          clear BK291
                          clear BK295
                          clear BK300
                          clear HB
                          have HO_288000 := n0_
                          have HO_292000 := n1_
                          have HO_296000 := n2_
                          have HO_301000 := n3_
                          have BK273 := n4_
                          have BK274 := n5_
                          have BK287 := n6_
                          have BK291 := n7_
                          have BK295 := n8_
                          have BK300 := n9_
                          have HB := n10_
                          clear n0_ n1_ n2_ n3_ n4_ n5_ n6_ n7_ n8_ n9_ n10_
                          refine start_ (n := 11) (S := fun w' => w'.cell? ⟨gb273, 0, none⟩ = some (.slice A0_0 l0_0.length c0_0) ∧ w'.cell? ⟨gb274, 0, none⟩ = some (.slice A1_0 l1_0.length c1_0)) (ds := []) #[false, false, false, false, false, false, false, false, false, false, false] (by kernel_rfl) rfl rfl ⟨(blk_cell BK273.out 0).trans rfl, (blk_cell BK274.out 0).trans rfl⟩ (fun hHeld => ?_); refine with_tabW laws_FnExactStackOf.tab31 laws_FnExactStackOf.bits31 (fun HT_ HW_ => ?_)
                          generalize w182.drew = w183 at HO_288000 HO_292000 HO_296000 HO_301000 BK273 BK274 BK287 BK291 BK295 BK300 HB hHeld ⊢
                          refine take_ (i := 0) (N := some 95) (v := ?_) (a' := ?_) #[true, false, false, false, false, false, false, false, false, false, false] rfl rfl (take_ofW HT_.out HW_.out (by kernel_rfl)) (fun _ _ _ h => h) (Or.inl ⟨by rfl, ?_⟩) hHeld ?_ ?_
                          rotate_left
                          · rintro w' ⟨s0, s1⟩
                            go_simp
                            with_reducible rfl
                          rotate_left
                          · bq154_q4
                            rfl
                          refine take_ (i := 2) (N := some 97) (v := ?_) (a' := ?_) #[true, false, true, false, false, false, false, false, false, false, false] rfl rfl (take_ofW HT_.out HW_.out (by kernel_rfl)) (fun _ _ _ h => h) (Or.inl ⟨by rfl, ?_⟩) hHeld ?_ ?_
                          rotate_left
                          · rintro w' ⟨s0, s1⟩
                            go_simp
                            with_reducible rfl
                          rotate_left
                          · bq154_q4
                            rfl
                          refine join_ (σ := Value × Value × Value × Nat) 2 #[true, true, true, true, true, true, true, true, true, false, false] (fun s_ => [(96, .agg #[s_.1]), (98, .agg #[s_.2.1]), (99, .tuple #[.agg #[s_.2.2.1], .bool t327]), (15, .pointer (some ⟨s_.2.2.2, 0, none⟩)), (94, .tuple #[.agg #[s_.2.2.1], .bool t327]), (100, .agg #[s_.2.2.1]), (101, .bool t327)]) (fun s_ w' => (w'.cell? ⟨gb273, 0, none⟩ = some (.slice A0_0 l0_0.length c0_0) ∧ w'.cell? ⟨gb274, 0, none⟩ = some (.slice A1_0 l1_0.length c1_0)) ∧ (Kd.R (Kd.int .i64) 3 w' w.heap.size (fun k_ => some k_ ≠ (s_.2.1 : Value).ownBlock ∧ some k_ ≠ (s_.2.2.1 : Value).ownBlock ∧ some k_ ≠ (.slice Ao41 t283.length co41 : Value).ownBlock ∧ some k_ ≠ (.slice Ao47 t311.length co47 : Value).ownBlock ∧ some k_ ≠ (.slice Ao56 t313.length co56 : Value).ownBlock ∧ some k_ ≠ (.slice Ao65 t296.length co65 : Value).ownBlock) s_.1 t318) ∧ (Kd.R (Kd.int .i64) 3 w' w.heap.size (fun k_ => some k_ ≠ (s_.1 : Value).ownBlock ∧ some k_ ≠ (s_.2.2.1 : Value).ownBlock ∧ some k_ ≠ (.slice Ao41 t283.length co41 : Value).ownBlock ∧ some k_ ≠ (.slice Ao47 t311.length co47 : Value).ownBlock ∧ some k_ ≠ (.slice Ao56 t313.length co56 : Value).ownBlock ∧ some k_ ≠ (.slice Ao65 t296.length co65 : Value).ownBlock) s_.2.1 t321) ∧ (Kd.R (Kd.int .i64) 3 w' w.heap.size (fun k_ => some k_ ≠ (s_.1 : Value).ownBlock ∧ some k_ ≠ (s_.2.1 : Value).ownBlock ∧ some k_ ≠ (.slice Ao41 t283.length co41 : Value).ownBlock ∧ some k_ ≠ (.slice Ao47 t311.length co47 : Value).ownBlock ∧ some k_ ≠ (.slice Ao56 t313.length co56 : Value).ownBlock ∧ some k_ ≠ (.slice Ao65 t296.length co65 : Value).ownBlock) s_.2.2.1 t324) ∧ (Kd.R (Kd.int .i64) 3 w' w.heap.size (fun k_ => some k_ ≠ (s_.1 : Value).ownBlock ∧ some k_ ≠ (s_.2.1 : Value).ownBlock ∧ some k_ ≠ (s_.2.2.1 : Value).ownBlock ∧ some k_ ≠ (.slice Ao47 t311.length co47 : Value).ownBlock ∧ some k_ ≠ (.slice Ao56 t313.length co56 : Value).ownBlock ∧ some k_ ≠ (.slice Ao65 t296.length co65 : Value).ownBlock) (.slice Ao41 t283.length co41) t283) ∧ (Kd.R (Kd.int .i64) 3 w' w.heap.size (fun k_ => some k_ ≠ (s_.1 : Value).ownBlock ∧ some k_ ≠ (s_.2.1 : Value).ownBlock ∧ some k_ ≠ (s_.2.2.1 : Value).ownBlock ∧ some k_ ≠ (.slice Ao41 t283.length co41 : Value).ownBlock ∧ some k_ ≠ (.slice Ao56 t313.length co56 : Value).ownBlock ∧ some k_ ≠ (.slice Ao65 t296.length co65 : Value).ownBlock) (.slice Ao47 t311.length co47) t311) ∧ (Kd.R (Kd.int .i64) 3 w' w.heap.size (fun k_ => some k_ ≠ (s_.1 : Value).ownBlock ∧ some k_ ≠ (s_.2.1 : Value).ownBlock ∧ some k_ ≠ (s_.2.2.1 : Value).ownBlock ∧ some k_ ≠ (.slice Ao41 t283.length co41 : Value).ownBlock ∧ some k_ ≠ (.slice Ao47 t311.length co47 : Value).ownBlock ∧ some k_ ≠ (.slice Ao65 t296.length co65 : Value).ownBlock) (.slice Ao56 t313.length co56) t313) ∧ (Kd.R (Kd.int .i64) 3 w' w.heap.size (fun k_ => some k_ ≠ (s_.1 : Value).ownBlock ∧ some k_ ≠ (s_.2.1 : Value).ownBlock ∧ some k_ ≠ (s_.2.2.1 : Value).ownBlock ∧ some k_ ≠ (.slice Ao41 t283.length co41 : Value).ownBlock ∧ some k_ ≠ (.slice Ao47 t311.length co47 : Value).ownBlock ∧ some k_ ≠ (.slice Ao56 t313.length co56 : Value).ownBlock) (.slice Ao65 t296.length co65) t316) ∧ (w'.heap[gb273]? = some (.cells #[.slice A0_0 l0_0.length c0_0] 24 (0, 0))) ∧ (w'.heap[gb274]? = some (.cells #[.slice A1_0 l1_0.length c1_0] 24 (0, 0))) ∧ (w'.heap[gb287]? = some (.cells #[.slice Ao41 t283.length co41] 26 (0, 0))) ∧ (w'.heap[gb291]? = some (.cells #[.slice Ao47 t311.length co47] 26 (0, 0))) ∧ (w'.heap[gb295]? = some (.cells #[.slice Ao56 t313.length co56] 26 (0, 0))) ∧ (w'.heap[gb300]? = some (.cells #[.slice Ao65 t296.length co65] 26 (0, 0))) ∧ (w'.heap[s_.2.2.2]? = some (.cells #[.slice none 0 0] 26 (0, 0))) ∧ (w.heap.size ≤ s_.2.2.2) ∧ (w.heap.size ≤ s_.2.2.2) ∧ (gb273 ≠ s_.2.2.2) ∧ (s_.2.2.2 ≠ gb273) ∧ (gb274 ≠ s_.2.2.2) ∧ (s_.2.2.2 ≠ gb274) ∧ (gb287 ≠ s_.2.2.2) ∧ (s_.2.2.2 ≠ gb287) ∧ (gb291 ≠ s_.2.2.2) ∧ (s_.2.2.2 ≠ gb291) ∧ (gb295 ≠ s_.2.2.2) ∧ (s_.2.2.2 ≠ gb295) ∧ (gb300 ≠ s_.2.2.2) ∧ (s_.2.2.2 ≠ gb300) ∧ (Below w.heap.size w w')) ?_ ?_
                          rotate_left
                          · intro hCont
                            refine two_ (i := 1) (j := 8) (Ni := some 96) (Nj := some 15) #[true, true, true, false, false, false, false, false, false, false, false] #[true, false, true, false, false, false, false, false, true, false, false] rfl rfl rfl rfl (two_of HT_.out (by kernel_rfl)) (by decide) (by decide) (fun K hK => ?_) (fun K hK => ?_)
                            · skip
                              bq169_q4
                              with_reducible refine (laws_toPoset.calls kj106 _ _ l0_0 t318 _ ?side1 ?side2 A170.out).mono ?_
                              bq18_q4
                              (case side2 => exact HC0_0.out)
                              rintro e w184 ⟨v319, rfl, ho0, hb⟩
                              refine ⟨_, rfl, ?_⟩
                              have n0_ := Aside0.mk bq30_q4
                              have n1_ := Aside0.mk bq29_q4
                              have n2_ := Aside0.mk bq28_q4
                              have n3_ := Aside0.mk bq27_q4
                              have n4_ := Aside0.mk bq153_q4
                              have n5_ := Aside0.mk bq8_q4
                              have n6_ := Aside0.mk bq9_q4
                              have n7_ := Aside0.mk bq10_q4
                              have n8_ := Aside0.mk bq16_q4
                              have n9_ := Aside0.mk bq15_q4
                              have n10_ := Aside0.mk bq11_q4
                              bq192_q4
                              clear HO_288000
                              clear HO_292000
                              clear HO_296000
                              clear HO_301000
                              clear BK273
                              clear BK274
                              clear BK287
                              clear BK291
                              clear BK295
                              clear BK300
                              clear HB
                              have HO_288000 := n0_
                              have HO_292000 := n1_
                              have HO_296000 := n2_
                              have HO_301000 := n3_
                              have HO320 := n4_
                              have BK273 := n5_
                              have BK274 := n6_
                              have BK287 := n7_
                              have BK291 := n8_
                              have BK295 := n9_
                              have BK300 := n10_
                              have HB := n11_
                              bq210_q4
                              (try clear hb)
                              (try clear hb2)
                              (try clear hk)
                              (try clear hi)
                              (try clear ho0)
                              bq155_q4
                              clear hK K
                              refine norm_ (a' := ?_) ?_ ?_
                              rotate_left
                              · show Act.put _ (some 96) _ = _
                                bq154_q4
                                rfl
                              refine two_ (i := 3) (j := 8) (Ni := some 98) (Nj := some 15) #[true, true, true, true, false, false, false, false, false, false, false] #[true, true, true, false, false, false, false, false, true, false, false] rfl rfl rfl rfl (two_of HT_.out (by kernel_rfl)) (by decide) (by decide) (fun K hK => ?_) (fun K hK => ?_)
                              · skip
                                bq166_q4
                                with_reducible refine (laws_toPoset.calls kj106 _ _ l1_0 t321 _ ?side1 ?side2 A171.out).mono ?_
                                bq17_q4
                                (case side2 => exact HC1_0.out)
                                rintro e w185 ⟨v322, rfl, ho0, hb⟩
                                refine ⟨_, rfl, ?_⟩
                                have n0_ := Aside0.mk bq30_q4
                                have n1_ := Aside0.mk bq29_q4
                                have n2_ := Aside0.mk bq28_q4
                                have n3_ := Aside0.mk bq27_q4
                                have n4_ := Aside0.mk bq66_q4
                                have n5_ := Aside0.mk (Kd.R_lower (Kd.R_new' bq12_q4 (Kd.R_lt (by bq2_q4; exact HO320.out))) (below_size (by repeat bq3_q4)))
                                have n6_ := Aside0.mk bq8_q4
                                have n7_ := Aside0.mk bq9_q4
                                have n8_ := Aside0.mk bq10_q4
                                have n9_ := Aside0.mk bq16_q4
                                have n10_ := Aside0.mk bq15_q4
                                have n11_ := Aside0.mk bq11_q4
                                bq208_q4
                                clear HO_288000
                                clear HO_292000
                                clear HO_296000
                                clear HO_301000
                                clear HO320
                                clear BK273
                                clear BK274
                                clear BK287
                                clear BK291
                                clear BK295
                                clear BK300
                                clear HB
                                have HO_288000 := n0_
                                have HO_292000 := n1_
                                have HO_296000 := n2_
                                have HO_301000 := n3_
                                have HO320 := n4_
                                have HO323 := n5_
                                have BK273 := n6_
                                have BK274 := n7_
                                have BK287 := n8_
                                have BK291 := n9_
                                have BK295 := n10_
                                have BK300 := n11_
                                have HB := n12_
                                bq189_q4
                                (try clear hb)
                                (try clear hb2)
                                (try clear hk)
                                (try clear hi)
                                (try clear ho0)
                                obtain ⟨Ao186, co186, eo186⟩ := Kd.R_slice HO320.out
                                (first | subst eo186 | (injection eo186 with f1_ f2_ f3_; bq183_q4; subst f4_; subst f5_))
                                obtain ⟨Ao187, co187, eo187⟩ := Kd.R_slice HO323.out
                                bq52_q4
                                bq155_q4
                                clear hK K
                                refine norm_ (a' := ?_) ?_ ?_
                                rotate_left
                                · show Act.put _ (some 98) _ = _
                                  bq154_q4
                                  rfl
                                refine two_ (i := 4) (j := 8) (Ni := some 99) (Nj := some 15) #[true, true, true, true, true, false, false, false, false, false, false] #[true, true, true, true, false, false, false, false, true, false, false] rfl rfl rfl rfl (two_of HT_.out (by kernel_rfl)) (by decide) (by decide) (fun K hK => ?_) (fun K hK => ?_)
                                · skip
                                  refine goes_ Try.func17 (by kernel_rfl) rfl #[.agg #[.slice Ao186 t318.length co186], .agg #[.slice Ao187 t321.length co187]] (by rfl) rfl rfl bq5_q4 ?_
                                  with_reducible refine (impl_StackOf.calls kj106 _ _ t318 _ _ t321 t324 t327 _ ?side1 ?side2 ?side3 ?side4 A172.out).mono ?_
                                  bq45_q4
                                  (case side2 => exact (Kd.R_reads' HO320.out).2.1)
                                  bq43_q4
                                  (case side4 => exact (Kd.R_reads' HO323.out).2.1)
                                  rintro e w188 ⟨v325, rfl, ho0, hb⟩
                                  refine ⟨_, rfl, ?_⟩
                                  have n0_ := Aside0.mk bq30_q4
                                  have n1_ := Aside0.mk bq29_q4
                                  have n2_ := Aside0.mk bq28_q4
                                  have n3_ := Aside0.mk bq27_q4
                                  have n4_ := Aside0.mk bq66_q4
                                  have n5_ := Aside0.mk bq122_q4
                                  have n6_ := Aside0.mk (Kd.R_lower bq68_q4 (below_size (by repeat bq3_q4)))
                                  have n7_ := Aside0.mk bq8_q4
                                  have n8_ := Aside0.mk bq9_q4
                                  have n9_ := Aside0.mk bq10_q4
                                  have n10_ := Aside0.mk bq16_q4
                                  have n11_ := Aside0.mk bq15_q4
                                  have n12_ := Aside0.mk bq11_q4
                                  have n13_ := Aside0.mk (below_step (by repeat bq3_q4) hb)
                                  clear HO_288000
                                  clear HO_292000
                                  clear HO_296000
                                  clear HO_301000
                                  clear HO320
                                  clear HO323
                                  clear BK273
                                  clear BK274
                                  clear BK287
                                  clear BK291
                                  clear BK295
                                  clear BK300
                                  clear HB
                                  have HO_288000 := n0_
                                  have HO_292000 := n1_
                                  have HO_296000 := n2_
                                  have HO_301000 := n3_
                                  have HO320 := n4_
                                  have HO323 := n5_
                                  have HO326 := n6_
                                  have BK273 := n7_
                                  have BK274 := n8_
                                  have BK287 := n9_
                                  have BK291 := n10_
                                  have BK295 := n11_
                                  have BK300 := n12_
                                  have HB := n13_
                                  bq246_q4
                                  (try clear hb)
                                  (try clear hb2)
                                  (try clear hk)
                                  (try clear hi)
                                  (try clear ho0)
                                  bq155_q4
                                  clear hK K
                                  refine norm_ (a' := ?_) ?_ ?_
                                  rotate_left
                                  · show Act.put _ (some 99) _ = _
                                    bq154_q4
                                    rfl
                                  refine pure_ (i := 5) (N := some 94) (v := ?_) (a' := ?_) #[true, true, true, true, true, true, false, false, false, false, false] rfl rfl (any_of HT_.out (by kernel_rfl)) (fun _ _ _ h => h) (Or.inl ⟨by rfl, ?_⟩) ?_ ?_
                                  rotate_left
                                  · intro w'
                                    go_simp
                                    with_reducible rfl
                                  rotate_left
                                  · bq154_q4
                                    rfl
                                  refine pure_ (i := 6) (N := some 100) (v := ?_) (a' := ?_) #[true, true, true, true, true, true, true, false, false, false, false] rfl rfl (any_of HT_.out (by kernel_rfl)) (fun _ _ _ h => h) (Or.inl ⟨by rfl, ?_⟩) ?_ ?_
                                  rotate_left
                                  · intro w'
                                    go_simp
                                    with_reducible rfl
                                  rotate_left
                                  · bq154_q4
                                    rfl
                                  refine pure_ (i := 7) (N := some 101) (v := ?_) (a' := ?_) #[true, true, true, true, true, true, true, true, false, false, false] rfl rfl (any_of HT_.out (by kernel_rfl)) (fun _ _ _ h => h) (Or.inl ⟨by rfl, ?_⟩) ?_ ?_
                                  rotate_left
                                  · intro w'
                                    go_simp
                                    with_reducible rfl
                                  rotate_left
                                  · bq154_q4
                                    rfl
                                  refine one_ (i := 8) (N := some 15) #[true, true, true, true, true, true, true, true, true, false, false] rfl rfl (one_of HT_.out (by kernel_rfl)) (by decide) (fun K hK => ?_)
                                  bq199_q4; bq31_q4
                                  intro gb328 hg w189 hbox hb
                                  bq178_q4
                                  bq177_q4
                                  bq176_q4
                                  bq175_q4
                                  bq239_q4
                                  have n5_ := Aside0.mk (Kd.R_below (by bq2_q4; exact HO323.out) hb)
                                  have n6_ := Aside0.mk (Kd.R_below (by bq2_q4; exact HO326.out) hb)
                                  have n7_ := Aside0.mk bq8_q4
                                  have n8_ := Aside0.mk bq9_q4
                                  have n9_ := Aside0.mk bq10_q4
                                  have n10_ := Aside0.mk bq16_q4
                                  have n11_ := Aside0.mk bq15_q4
                                  have n12_ := Aside0.mk bq11_q4
                                  have n13_ := Aside0.mk (below_step (by repeat bq3_q4) hb)
                                  have n14_ := Aside0.mk (hbox)
                                  have n15_ := Aside0.mk (bq48_q4)
                                  have n16_ := Aside0.mk (bq48_q4)
                                  have n17_ := Aside0.mk (bq141_q4)
                                  have n18_ := Aside0.mk (bq149_q4)
                                  have n19_ := Aside0.mk (bq139_q4)
                                  have n20_ := Aside0.mk (bq147_q4)
                                  have n21_ := Aside0.mk (bq138_q4)
                                  have n22_ := Aside0.mk (bq146_q4)
                                  have n23_ := Aside0.mk (bq135_q4)
                                  have n24_ := Aside0.mk (bq143_q4)
                                  have n25_ := Aside0.mk (bq136_q4)
                                  have n26_ := Aside0.mk (bq144_q4)
                                  have n27_ := Aside0.mk (bq137_q4)
                                  have n28_ := Aside0.mk (bq145_q4)
                                  clear HO_288000
                                  clear HO_292000
                                  clear HO_296000
                                  clear HO_301000
                                  clear HO320
                                  clear HO323
                                  clear HO326
                                  clear BK273
                                  clear BK274
                                  clear BK287
                                  clear BK291
                                  clear BK295
                                  clear BK300
                                  clear HB
                                  have HO_288000 := n0_
                                  have HO_292000 := n1_
                                  have HO_296000 := n2_
                                  have HO_301000 := n3_
                                  have HO320 := n4_
                                  have HO323 := n5_
                                  have HO326 := n6_
                                  have BK273 := n7_
                                  have BK274 := n8_
                                  have BK287 := n9_
                                  have BK291 := n10_
                                  have BK295 := n11_
                                  have BK300 := n12_
                                  have HB := n13_
                                  have BK328 := n14_
                                  have GW328 := n15_
                                  have GE328 := n16_
                                  have NB273_328 := n17_
                                  have NB328_273 := n18_
                                  have NB274_328 := n19_
                                  have NB328_274 := n20_
                                  have NB287_328 := n21_
                                  have NB328_287 := n22_
                                  have NB291_328 := n23_
                                  have NB328_291 := n24_
                                  have NB295_328 := n25_
                                  have NB328_295 := n26_
                                  have NB300_328 := n27_
                                  have NB328_300 := n28_
                                  bq245_q4
                                  clear hb hbox hg
                                  bq155_q4
                                  clear hK K
                                  refine norm_ (a' := ?_) ?_ ?_
                                  rotate_left
                                  · show Act.put _ (some 15) _ = _
                                    bq154_q4
                                    rfl
                                  exact norm_ bq35_q4 (hCont (.slice Ao186 t318.length co186, .slice Ao187 t321.length co187, v325, gb328) _ ⟨hHeld, bq63_q4, bq62_q4, bq61_q4, bq59_q4, bq58_q4, bq57_q4, bq56_q4, (by bq1_q4; exact BK273.out), (by bq1_q4; exact BK274.out), (by bq1_q4; exact BK287.out), (by bq1_q4; exact BK291.out), (by bq1_q4; exact BK295.out), (by bq1_q4; exact BK300.out), (by bq1_q4; exact BK328.out), GW328.out, GE328.out, NB273_328.out, NB328_273.out, NB274_328.out, NB328_274.out, NB287_328.out, NB328_287.out, NB291_328.out, NB328_291.out, NB295_328.out, NB328_295.out, NB300_328.out, NB328_300.out, (by repeat bq4_q4)⟩)
                                · skip
                                  bq199_q4; bq31_q4
                                  intro gb328 hg w186 hbox hb
                                  bq178_q4
                                  bq177_q4
                                  bq176_q4
                                  bq175_q4
                                  bq239_q4
                                  have n5_ := Aside0.mk (Kd.R_below (by bq2_q4; exact HO323.out) hb)
                                  have n6_ := Aside0.mk bq8_q4
                                  have n7_ := Aside0.mk bq9_q4
                                  have n8_ := Aside0.mk bq10_q4
                                  have n9_ := Aside0.mk bq16_q4
                                  have n10_ := Aside0.mk bq15_q4
                                  have n11_ := Aside0.mk bq11_q4
                                  bq208_q4
                                  have n13_ := Aside0.mk (hbox)
                                  have n14_ := Aside0.mk (bq48_q4)
                                  have n15_ := Aside0.mk (bq48_q4)
                                  have n16_ := Aside0.mk (bq141_q4)
                                  have n17_ := Aside0.mk (bq149_q4)
                                  have n18_ := Aside0.mk (bq139_q4)
                                  have n19_ := Aside0.mk (bq147_q4)
                                  have n20_ := Aside0.mk (bq138_q4)
                                  have n21_ := Aside0.mk (bq146_q4)
                                  have n22_ := Aside0.mk (bq135_q4)
                                  have n23_ := Aside0.mk (bq143_q4)
                                  have n24_ := Aside0.mk (bq136_q4)
                                  have n25_ := Aside0.mk (bq144_q4)
                                  have n26_ := Aside0.mk (bq137_q4)
                                  have n27_ := Aside0.mk (bq145_q4)
                                  clear HO_288000
                                  clear HO_292000
                                  clear HO_296000
                                  clear HO_301000
                                  clear HO320
                                  clear HO323
                                  clear BK273
                                  clear BK274
                                  clear BK287
                                  clear BK291
                                  clear BK295
                                  clear BK300
                                  clear HB
                                  have HO_288000 := n0_
                                  have HO_292000 := n1_
                                  have HO_296000 := n2_
                                  have HO_301000 := n3_
                                  have HO320 := n4_
                                  have HO323 := n5_
                                  have BK273 := n6_
                                  have BK274 := n7_
                                  have BK287 := n8_
                                  have BK291 := n9_
                                  have BK295 := n10_
                                  have BK300 := n11_
                                  have HB := n12_
                                  have BK328 := n13_
                                  have GW328 := n14_
                                  have GE328 := n15_
                                  have NB273_328 := n16_
                                  have NB328_273 := n17_
                                  have NB274_328 := n18_
                                  have NB328_274 := n19_
                                  have NB287_328 := n20_
                                  have NB328_287 := n21_
                                  have NB291_328 := n22_
                                  have NB328_291 := n23_
                                  have NB295_328 := n24_
                                  have NB328_295 := n25_
                                  have NB300_328 := n26_
                                  have NB328_300 := n27_
                                  clear n0_ n1_ n2_ n3_ n4_ n5_ n6_ n7_ n8_ n9_ n10_ n11_ n12_ n13_ n14_ n15_ n16_ n17_ n18_ n19_ n20_ n21_ n22_ n23_ n24_ n25_ n26_ n27_
                                  clear hb hbox hg
                                  obtain ⟨Ao187, co187, eo187⟩ := Kd.R_slice HO320.out
                                  bq52_q4
                                  obtain ⟨Ao188, co188, eo188⟩ := Kd.R_slice HO323.out
                                  bq71_q4
                                  bq155_q4
                                  clear hK K
                                  refine norm_ (a' := ?_) ?_ ?_
                                  rotate_left
                                  · show Act.put _ (some 15) _ = _
                                    bq154_q4
                                    rfl
                                  bq193_q4
                                  bq204_q4
                                  with_reducible refine (impl_StackOf.calls kj106 _ _ t318 _ _ t321 t324 t327 _ ?side1 ?side2 ?side3 ?side4 A172.out).mono ?_
                                  bq45_q4
                                  (case side2 => exact (Kd.R_reads' HO320.out).2.1)
                                  bq43_q4
                                  (case side4 => exact (Kd.R_reads' HO323.out).2.1)
                                  rintro e w189 ⟨v325, rfl, ho0, hb⟩
                                  refine ⟨_, rfl, ?_⟩
                                  have n0_ := Aside0.mk bq30_q4
                                  have n1_ := Aside0.mk bq29_q4
                                  have n2_ := Aside0.mk bq28_q4
                                  have n3_ := Aside0.mk bq27_q4
                                  have n4_ := Aside0.mk bq66_q4
                                  have n5_ := Aside0.mk bq122_q4
                                  bq234_q4
                                  have n7_ := Aside0.mk bq8_q4
                                  have n8_ := Aside0.mk bq9_q4
                                  have n9_ := Aside0.mk bq10_q4
                                  have n10_ := Aside0.mk bq16_q4
                                  have n11_ := Aside0.mk bq15_q4
                                  have n12_ := Aside0.mk bq11_q4
                                  have n13_ := Aside0.mk bq49_q4
                                  have n14_ := Aside0.mk (below_step (by repeat bq4_q4) hb)
                                  clear HO_288000
                                  clear HO_292000
                                  clear HO_296000
                                  clear HO_301000
                                  clear HO320
                                  clear HO323
                                  clear BK273
                                  clear BK274
                                  clear BK287
                                  clear BK291
                                  clear BK295
                                  clear BK300
                                  clear BK328
                                  clear HB
                                  have HO_288000 := n0_
                                  have HO_292000 := n1_
                                  have HO_296000 := n2_
                                  have HO_301000 := n3_
                                  have HO320 := n4_
                                  have HO323 := n5_
                                  have HO326 := n6_
                                  have BK273 := n7_
                                  have BK274 := n8_
                                  have BK287 := n9_
                                  have BK291 := n10_
                                  have BK295 := n11_
                                  have BK300 := n12_
                                  have BK328 := n13_
                                  have HB := n14_
                                  bq227_q4
                                  (try clear hb)
                                  (try clear hb2)
                                  (try clear hk)
                                  (try clear hi)
                                  (try clear ho0)
                                  bq155_q4
                                  clear hK K
                                  refine norm_ (a' := ?_) ?_ ?_
                                  rotate_left
                                  · show Act.put _ (some 99) _ = _
                                    bq154_q4
                                    rfl
                                  bq185_q4
                                  rotate_left
                                  · intro w'
                                    go_simp
                                    with_reducible rfl
                                  rotate_left
                                  · bq154_q4
                                    rfl
                                  bq184_q4
                                  rotate_left
                                  · intro w'
                                    go_simp
                                    with_reducible rfl
                                  rotate_left
                                  · bq154_q4
                                    rfl
                                  bq187_q4
                                  rotate_left
                                  · intro w'
                                    go_simp
                                    with_reducible rfl
                                  rotate_left
                                  · bq154_q4
                                    rfl
                                  bq159_q4
                              · skip
                                bq199_q4; bq31_q4
                                intro gb328 hg w185 hbox hb
                                bq178_q4
                                bq177_q4
                                bq176_q4
                                bq175_q4
                                bq239_q4
                                have n5_ := Aside0.mk bq8_q4
                                have n6_ := Aside0.mk bq9_q4
                                have n7_ := Aside0.mk bq10_q4
                                have n8_ := Aside0.mk bq16_q4
                                have n9_ := Aside0.mk bq15_q4
                                have n10_ := Aside0.mk bq11_q4
                                bq192_q4
                                have n12_ := Aside0.mk (hbox)
                                have n13_ := Aside0.mk (bq48_q4)
                                have n14_ := Aside0.mk (bq48_q4)
                                have n15_ := Aside0.mk (bq141_q4)
                                have n16_ := Aside0.mk (bq149_q4)
                                have n17_ := Aside0.mk (bq139_q4)
                                have n18_ := Aside0.mk (bq147_q4)
                                have n19_ := Aside0.mk (bq138_q4)
                                have n20_ := Aside0.mk (bq146_q4)
                                have n21_ := Aside0.mk (bq135_q4)
                                have n22_ := Aside0.mk (bq143_q4)
                                have n23_ := Aside0.mk (bq136_q4)
                                have n24_ := Aside0.mk (bq144_q4)
                                have n25_ := Aside0.mk (bq137_q4)
                                have n26_ := Aside0.mk (bq145_q4)
                                clear HO_288000
                                clear HO_292000
                                clear HO_296000
                                clear HO_301000
                                clear HO320
                                clear BK273
                                clear BK274
                                clear BK287
                                clear BK291
                                clear BK295
                                clear BK300
                                clear HB
                                have HO_288000 := n0_
                                have HO_292000 := n1_
                                have HO_296000 := n2_
                                have HO_301000 := n3_
                                have HO320 := n4_
                                have BK273 := n5_
                                have BK274 := n6_
                                have BK287 := n7_
                                have BK291 := n8_
                                have BK295 := n9_
                                have BK300 := n10_
                                have HB := n11_
                                have BK328 := n12_
                                have GW328 := n13_
                                have GE328 := n14_
                                have NB273_328 := n15_
                                have NB328_273 := n16_
                                have NB274_328 := n17_
                                have NB328_274 := n18_
                                have NB287_328 := n19_
                                have NB328_287 := n20_
                                have NB291_328 := n21_
                                have NB328_291 := n22_
                                have NB295_328 := n23_
                                have NB328_295 := n24_
                                have NB300_328 := n25_
                                have NB328_300 := n26_
                                clear n0_ n1_ n2_ n3_ n4_ n5_ n6_ n7_ n8_ n9_ n10_ n11_ n12_ n13_ n14_ n15_ n16_ n17_ n18_ n19_ n20_ n21_ n22_ n23_ n24_ n25_ n26_
                                clear hb hbox hg
                                bq155_q4
                                clear hK K
                                refine norm_ (a' := ?_) ?_ ?_
                                rotate_left
                                · show Act.put _ (some 15) _ = _
                                  bq154_q4
                                  rfl
                                bq221_q4
                                bq166_q4
                                with_reducible refine (laws_toPoset.calls kj106 _ _ l1_0 t321 _ ?side1 ?side2 A171.out).mono ?_
                                bq17_q4
                                (case side2 => exact HC1_0.out)
                                rintro e w186 ⟨v322, rfl, ho0, hb⟩
                                refine ⟨_, rfl, ?_⟩
                                have n0_ := Aside0.mk bq30_q4
                                have n1_ := Aside0.mk bq29_q4
                                have n2_ := Aside0.mk bq28_q4
                                have n3_ := Aside0.mk bq27_q4
                                have n4_ := Aside0.mk bq66_q4
                                bq237_q4
                                have n6_ := Aside0.mk bq8_q4
                                have n7_ := Aside0.mk bq9_q4
                                have n8_ := Aside0.mk bq10_q4
                                have n9_ := Aside0.mk bq16_q4
                                have n10_ := Aside0.mk bq15_q4
                                have n11_ := Aside0.mk bq11_q4
                                have n12_ := Aside0.mk bq49_q4
                                have n13_ := Aside0.mk (below_step (by repeat bq4_q4) hb)
                                clear HO_288000
                                clear HO_292000
                                clear HO_296000
                                clear HO_301000
                                clear HO320
                                clear BK273
                                clear BK274
                                clear BK287
                                clear BK291
                                clear BK295
                                clear BK300
                                clear BK328
                                clear HB
                                have HO_288000 := n0_
                                have HO_292000 := n1_
                                have HO_296000 := n2_
                                have HO_301000 := n3_
                                have HO320 := n4_
                                have HO323 := n5_
                                have BK273 := n6_
                                have BK274 := n7_
                                have BK287 := n8_
                                have BK291 := n9_
                                have BK295 := n10_
                                have BK300 := n11_
                                have BK328 := n12_
                                have HB := n13_
                                bq246_q4
                                (try clear hb)
                                (try clear hb2)
                                (try clear hk)
                                (try clear hi)
                                (try clear ho0)
                                obtain ⟨Ao187, co187, eo187⟩ := Kd.R_slice HO320.out
                                bq52_q4
                                obtain ⟨Ao188, co188, eo188⟩ := Kd.R_slice HO323.out
                                bq71_q4
                                bq155_q4
                                clear hK K
                                refine norm_ (a' := ?_) ?_ ?_
                                rotate_left
                                · show Act.put _ (some 98) _ = _
                                  bq154_q4
                                  rfl
                                bq193_q4
                                bq204_q4
                                with_reducible refine (impl_StackOf.calls kj106 _ _ t318 _ _ t321 t324 t327 _ ?side1 ?side2 ?side3 ?side4 A172.out).mono ?_
                                bq45_q4
                                (case side2 => exact (Kd.R_reads' HO320.out).2.1)
                                bq43_q4
                                (case side4 => exact (Kd.R_reads' HO323.out).2.1)
                                rintro e w189 ⟨v325, rfl, ho0, hb⟩
                                refine ⟨_, rfl, ?_⟩
                                have n0_ := Aside0.mk bq30_q4
                                have n1_ := Aside0.mk bq29_q4
                                have n2_ := Aside0.mk bq28_q4
                                have n3_ := Aside0.mk bq27_q4
                                have n4_ := Aside0.mk bq66_q4
                                have n5_ := Aside0.mk bq122_q4
                                bq234_q4
                                have n7_ := Aside0.mk bq8_q4
                                have n8_ := Aside0.mk bq9_q4
                                have n9_ := Aside0.mk bq10_q4
                                have n10_ := Aside0.mk bq16_q4
                                have n11_ := Aside0.mk bq15_q4
                                have n12_ := Aside0.mk bq11_q4
                                have n13_ := Aside0.mk bq49_q4
                                have n14_ := Aside0.mk (below_step (by repeat bq4_q4) hb)
                                clear HO_288000
                                clear HO_292000
                                clear HO_296000
                                clear HO_301000
                                clear HO320
                                clear HO323
                                clear BK273
                                clear BK274
                                clear BK287
                                clear BK291
                                clear BK295
                                clear BK300
                                clear BK328
                                clear HB
                                have HO_288000 := n0_
                                have HO_292000 := n1_
                                have HO_296000 := n2_
                                have HO_301000 := n3_
                                have HO320 := n4_
                                have HO323 := n5_
                                have HO326 := n6_
                                have BK273 := n7_
                                have BK274 := n8_
                                have BK287 := n9_
                                have BK291 := n10_
                                have BK295 := n11_
                                have BK300 := n12_
                                have BK328 := n13_
                                have HB := n14_
                                bq227_q4
                                (try clear hb)
                                (try clear hb2)
                                (try clear hk)
                                (try clear hi)
                                (try clear ho0)
                                bq155_q4
                                clear hK K
                                refine norm_ (a' := ?_) ?_ ?_
                                rotate_left
                                · show Act.put _ (some 99) _ = _
                                  bq154_q4
                                  rfl
                                bq185_q4
                                rotate_left
                                · intro w'
                                  go_simp
                                  with_reducible rfl
                                rotate_left
                                · bq154_q4
                                  rfl
                                bq184_q4
                                rotate_left
                                · intro w'
                                  go_simp
                                  with_reducible rfl
                                rotate_left
                                · bq154_q4
                                  rfl
                                bq187_q4
                                rotate_left
                                · intro w'
                                  go_simp
                                  with_reducible rfl
                                rotate_left
                                · bq154_q4
                                  rfl
                                bq159_q4
                            · skip
                              bq199_q4; bq31_q4
                              intro gb328 hg w184 hbox hb
                              bq178_q4
                              bq177_q4
                              bq176_q4
                              bq175_q4
                              have n4_ := Aside0.mk bq8_q4
                              have n5_ := Aside0.mk bq9_q4
                              have n6_ := Aside0.mk bq10_q4
                              have n7_ := Aside0.mk bq16_q4
                              have n8_ := Aside0.mk bq15_q4
                              have n9_ := Aside0.mk bq11_q4
                              have n10_ := Aside0.mk (below_step (by repeat bq3_q4) hb)
                              have n11_ := Aside0.mk (hbox)
                              have n12_ := Aside0.mk (bq48_q4)
                              have n13_ := Aside0.mk (bq48_q4)
                              have n14_ := Aside0.mk (bq141_q4)
                              have n15_ := Aside0.mk (bq149_q4)
                              have n16_ := Aside0.mk (bq139_q4)
                              have n17_ := Aside0.mk (bq147_q4)
                              have n18_ := Aside0.mk (bq138_q4)
                              have n19_ := Aside0.mk (bq146_q4)
                              have n20_ := Aside0.mk (bq135_q4)
                              have n21_ := Aside0.mk (bq143_q4)
                              have n22_ := Aside0.mk (bq136_q4)
                              have n23_ := Aside0.mk (bq144_q4)
                              have n24_ := Aside0.mk (bq137_q4)
                              have n25_ := Aside0.mk (bq145_q4)
                              clear HO_288000
                              clear HO_292000
                              clear HO_296000
                              clear HO_301000
                              clear BK273
                              clear BK274
                              clear BK287
                              clear BK291
                              clear BK295
                              clear BK300
                              clear HB
                              have HO_288000 := n0_
                              have HO_292000 := n1_
                              have HO_296000 := n2_
                              have HO_301000 := n3_
                              have BK273 := n4_
                              have BK274 := n5_
                              have BK287 := n6_
                              have BK291 := n7_
                              have BK295 := n8_
                              have BK300 := n9_
                              have HB := n10_
                              have BK328 := n11_
                              have GW328 := n12_
                              have GE328 := n13_
                              have NB273_328 := n14_
                              have NB328_273 := n15_
                              have NB274_328 := n16_
                              have NB328_274 := n17_
                              have NB287_328 := n18_
                              have NB328_287 := n19_
                              have NB291_328 := n20_
                              have NB328_291 := n21_
                              have NB295_328 := n22_
                              have NB328_295 := n23_
                              have NB300_328 := n24_
                              have NB328_300 := n25_
                              clear n0_ n1_ n2_ n3_ n4_ n5_ n6_ n7_ n8_ n9_ n10_ n11_ n12_ n13_ n14_ n15_ n16_ n17_ n18_ n19_ n20_ n21_ n22_ n23_ n24_ n25_
                              clear hb hbox hg
                              bq155_q4
                              clear hK K
                              refine norm_ (a' := ?_) ?_ ?_
                              rotate_left
                              · show Act.put _ (some 15) _ = _
                                bq154_q4
                                rfl
                              refine one_ (i := 1) (N := some 96) #[true, true, true, false, false, false, false, false, true, false, false] rfl rfl (one_of HT_.out (by kernel_rfl)) (by decide) (fun K hK => ?_)
                              bq169_q4
                              with_reducible refine (laws_toPoset.calls kj106 _ _ l0_0 t318 _ ?side1 ?side2 A170.out).mono ?_
                              bq18_q4
                              (case side2 => exact HC0_0.out)
                              rintro e w185 ⟨v319, rfl, ho0, hb⟩
                              refine ⟨_, rfl, ?_⟩
                              have n0_ := Aside0.mk bq30_q4
                              have n1_ := Aside0.mk bq29_q4
                              have n2_ := Aside0.mk bq28_q4
                              have n3_ := Aside0.mk bq27_q4
                              have n4_ := Aside0.mk (Kd.R_lower bq12_q4 (below_size (by repeat bq4_q4)))
                              have n5_ := Aside0.mk bq8_q4
                              have n6_ := Aside0.mk bq9_q4
                              have n7_ := Aside0.mk bq10_q4
                              have n8_ := Aside0.mk bq16_q4
                              have n9_ := Aside0.mk bq15_q4
                              have n10_ := Aside0.mk bq11_q4
                              have n11_ := Aside0.mk bq49_q4
                              have n12_ := Aside0.mk (below_step (by repeat bq4_q4) hb)
                              clear HO_288000
                              clear HO_292000
                              clear HO_296000
                              clear HO_301000
                              clear BK273
                              clear BK274
                              clear BK287
                              clear BK291
                              clear BK295
                              clear BK300
                              clear BK328
                              clear HB
                              have HO_288000 := n0_
                              have HO_292000 := n1_
                              have HO_296000 := n2_
                              have HO_301000 := n3_
                              have HO320 := n4_
                              have BK273 := n5_
                              have BK274 := n6_
                              have BK287 := n7_
                              have BK291 := n8_
                              have BK295 := n9_
                              have BK300 := n10_
                              have BK328 := n11_
                              have HB := n12_
                              bq189_q4
                              (try clear hb)
                              (try clear hb2)
                              (try clear hk)
                              (try clear hi)
                              (try clear ho0)
                              bq155_q4
                              clear hK K
                              refine norm_ (a' := ?_) ?_ ?_
                              rotate_left
                              · show Act.put _ (some 96) _ = _
                                bq154_q4
                                rfl
                              bq221_q4
                              bq166_q4
                              with_reducible refine (laws_toPoset.calls kj106 _ _ l1_0 t321 _ ?side1 ?side2 A171.out).mono ?_
                              bq17_q4
                              (case side2 => exact HC1_0.out)
                              rintro e w186 ⟨v322, rfl, ho0, hb⟩
                              refine ⟨_, rfl, ?_⟩
                              have n0_ := Aside0.mk bq30_q4
                              have n1_ := Aside0.mk bq29_q4
                              have n2_ := Aside0.mk bq28_q4
                              have n3_ := Aside0.mk bq27_q4
                              have n4_ := Aside0.mk bq66_q4
                              bq237_q4
                              have n6_ := Aside0.mk bq8_q4
                              have n7_ := Aside0.mk bq9_q4
                              have n8_ := Aside0.mk bq10_q4
                              have n9_ := Aside0.mk bq16_q4
                              have n10_ := Aside0.mk bq15_q4
                              have n11_ := Aside0.mk bq11_q4
                              have n12_ := Aside0.mk bq49_q4
                              have n13_ := Aside0.mk (below_step (by repeat bq4_q4) hb)
                              clear HO_288000
                              clear HO_292000
                              clear HO_296000
                              clear HO_301000
                              clear HO320
                              clear BK273
                              clear BK274
                              clear BK287
                              clear BK291
                              clear BK295
                              clear BK300
                              clear BK328
                              clear HB
                              have HO_288000 := n0_
                              have HO_292000 := n1_
                              have HO_296000 := n2_
                              have HO_301000 := n3_
                              have HO320 := n4_
                              have HO323 := n5_
                              have BK273 := n6_
                              have BK274 := n7_
                              have BK287 := n8_
                              have BK291 := n9_
                              have BK295 := n10_
                              have BK300 := n11_
                              have BK328 := n12_
                              have HB := n13_
                              bq246_q4
                              (try clear hb)
                              (try clear hb2)
                              (try clear hk)
                              (try clear hi)
                              (try clear ho0)
                              obtain ⟨Ao187, co187, eo187⟩ := Kd.R_slice HO320.out
                              bq52_q4
                              obtain ⟨Ao188, co188, eo188⟩ := Kd.R_slice HO323.out
                              bq71_q4
                              bq155_q4
                              clear hK K
                              refine norm_ (a' := ?_) ?_ ?_
                              rotate_left
                              · show Act.put _ (some 98) _ = _
                                bq154_q4
                                rfl
                              bq193_q4
                              bq204_q4
                              with_reducible refine (impl_StackOf.calls kj106 _ _ t318 _ _ t321 t324 t327 _ ?side1 ?side2 ?side3 ?side4 A172.out).mono ?_
                              bq45_q4
                              (case side2 => exact (Kd.R_reads' HO320.out).2.1)
                              bq43_q4
                              (case side4 => exact (Kd.R_reads' HO323.out).2.1)
                              rintro e w189 ⟨v325, rfl, ho0, hb⟩
                              refine ⟨_, rfl, ?_⟩
                              have n0_ := Aside0.mk bq30_q4
                              have n1_ := Aside0.mk bq29_q4
                              have n2_ := Aside0.mk bq28_q4
                              have n3_ := Aside0.mk bq27_q4
                              have n4_ := Aside0.mk bq66_q4
                              have n5_ := Aside0.mk bq122_q4
                              bq234_q4
                              have n7_ := Aside0.mk bq8_q4
                              have n8_ := Aside0.mk bq9_q4
                              have n9_ := Aside0.mk bq10_q4
                              have n10_ := Aside0.mk bq16_q4
                              have n11_ := Aside0.mk bq15_q4
                              have n12_ := Aside0.mk bq11_q4
                              have n13_ := Aside0.mk bq49_q4
                              have n14_ := Aside0.mk (below_step (by repeat bq4_q4) hb)
                              clear HO_288000
                              clear HO_292000
                              clear HO_296000
                              clear HO_301000
                              clear HO320
                              clear HO323
                              clear BK273
                              clear BK274
                              clear BK287
                              clear BK291
                              clear BK295
                              clear BK300
                              clear BK328
                              clear HB
                              have HO_288000 := n0_
                              have HO_292000 := n1_
                              have HO_296000 := n2_
                              have HO_301000 := n3_
                              have HO320 := n4_
                              have HO323 := n5_
                              have HO326 := n6_
                              have BK273 := n7_
                              have BK274 := n8_
                              have BK287 := n9_
                              have BK291 := n10_
                              have BK295 := n11_
                              have BK300 := n12_
                              have BK328 := n13_
                              have HB := n14_
                              bq227_q4
                              (try clear hb)
                              (try clear hb2)
                              (try clear hk)
                              (try clear hi)
                              (try clear ho0)
                              bq155_q4
                              clear hK K
                              refine norm_ (a' := ?_) ?_ ?_
                              rotate_left
                              · show Act.put _ (some 99) _ = _
                                bq154_q4
                                rfl
                              bq185_q4
                              rotate_left
                              · intro w'
                                go_simp
                                with_reducible rfl
                              rotate_left
                              · bq154_q4
                                rfl
                              bq184_q4
                              rotate_left
                              · intro w'
                                go_simp
                                with_reducible rfl
                              rotate_left
                              · bq154_q4
                                rfl
                              bq187_q4
                              rotate_left
                              · intro w'
                                go_simp
                                with_reducible rfl
                              rotate_left
                              · bq154_q4
                                rfl
                              bq159_q4
                          rintro ⟨v319, v322, v325, gb328⟩ w190 ⟨hS_, h0_, h1_, h2_, h3_, h4_, h5_, h6_, h7_, h8_, h9_, h10_, h11_, h12_, h13_, h14_, h15_, h16_, h17_, h18_, h19_, h20_, h21_, h22_, h23_, h24_, h25_, h26_, h27_, h28_⟩
                          have n0_ : Aside0 (Kd.R (Kd.int .i64) 3 w190 w.heap.size (fun k_ => some k_ ≠ (v322 : Value).ownBlock ∧ some k_ ≠ (v325 : Value).ownBlock ∧ some k_ ≠ (.slice Ao41 t283.length co41 : Value).ownBlock ∧ some k_ ≠ (.slice Ao47 t311.length co47 : Value).ownBlock ∧ some k_ ≠ (.slice Ao56 t313.length co56 : Value).ownBlock ∧ some k_ ≠ (.slice Ao65 t296.length co65 : Value).ownBlock) v319 t318) := ⟨h0_⟩
                          have n1_ : Aside0 (Kd.R (Kd.int .i64) 3 w190 w.heap.size (fun k_ => some k_ ≠ (v319 : Value).ownBlock ∧ some k_ ≠ (v325 : Value).ownBlock ∧ some k_ ≠ (.slice Ao41 t283.length co41 : Value).ownBlock ∧ some k_ ≠ (.slice Ao47 t311.length co47 : Value).ownBlock ∧ some k_ ≠ (.slice Ao56 t313.length co56 : Value).ownBlock ∧ some k_ ≠ (.slice Ao65 t296.length co65 : Value).ownBlock) v322 t321) := ⟨h1_⟩
                          have n2_ : Aside0 (Kd.R (Kd.int .i64) 3 w190 w.heap.size (fun k_ => some k_ ≠ (v319 : Value).ownBlock ∧ some k_ ≠ (v322 : Value).ownBlock ∧ some k_ ≠ (.slice Ao41 t283.length co41 : Value).ownBlock ∧ some k_ ≠ (.slice Ao47 t311.length co47 : Value).ownBlock ∧ some k_ ≠ (.slice Ao56 t313.length co56 : Value).ownBlock ∧ some k_ ≠ (.slice Ao65 t296.length co65 : Value).ownBlock) v325 t324) := ⟨h2_⟩
                          have n3_ : Aside0 (Kd.R (Kd.int .i64) 3 w190 w.heap.size (fun k_ => some k_ ≠ (v319 : Value).ownBlock ∧ some k_ ≠ (v322 : Value).ownBlock ∧ some k_ ≠ (v325 : Value).ownBlock ∧ some k_ ≠ (.slice Ao47 t311.length co47 : Value).ownBlock ∧ some k_ ≠ (.slice Ao56 t313.length co56 : Value).ownBlock ∧ some k_ ≠ (.slice Ao65 t296.length co65 : Value).ownBlock) (.slice Ao41 t283.length co41) t283) := ⟨h3_⟩
                          have n4_ : Aside0 (Kd.R (Kd.int .i64) 3 w190 w.heap.size (fun k_ => some k_ ≠ (v319 : Value).ownBlock ∧ some k_ ≠ (v322 : Value).ownBlock ∧ some k_ ≠ (v325 : Value).ownBlock ∧ some k_ ≠ (.slice Ao41 t283.length co41 : Value).ownBlock ∧ some k_ ≠ (.slice Ao56 t313.length co56 : Value).ownBlock ∧ some k_ ≠ (.slice Ao65 t296.length co65 : Value).ownBlock) (.slice Ao47 t311.length co47) t311) := ⟨h4_⟩
                          have n5_ : Aside0 (Kd.R (Kd.int .i64) 3 w190 w.heap.size (fun k_ => some k_ ≠ (v319 : Value).ownBlock ∧ some k_ ≠ (v322 : Value).ownBlock ∧ some k_ ≠ (v325 : Value).ownBlock ∧ some k_ ≠ (.slice Ao41 t283.length co41 : Value).ownBlock ∧ some k_ ≠ (.slice Ao47 t311.length co47 : Value).ownBlock ∧ some k_ ≠ (.slice Ao65 t296.length co65 : Value).ownBlock) (.slice Ao56 t313.length co56) t313) := ⟨h5_⟩
                          have n6_ : Aside0 (Kd.R (Kd.int .i64) 3 w190 w.heap.size (fun k_ => some k_ ≠ (v319 : Value).ownBlock ∧ some k_ ≠ (v322 : Value).ownBlock ∧ some k_ ≠ (v325 : Value).ownBlock ∧ some k_ ≠ (.slice Ao41 t283.length co41 : Value).ownBlock ∧ some k_ ≠ (.slice Ao47 t311.length co47 : Value).ownBlock ∧ some k_ ≠ (.slice Ao56 t313.length co56 : Value).ownBlock) (.slice Ao65 t296.length co65) t316) := ⟨h6_⟩
                          have n7_ : Aside0 (w190.heap[gb273]? = some (.cells #[.slice A0_0 l0_0.length c0_0] 24 (0, 0))) := ⟨h7_⟩
                          have n8_ : Aside0 (w190.heap[gb274]? = some (.cells #[.slice A1_0 l1_0.length c1_0] 24 (0, 0))) := ⟨h8_⟩
                          have n9_ : Aside0 (w190.heap[gb287]? = some (.cells #[.slice Ao41 t283.length co41] 26 (0, 0))) := ⟨h9_⟩
                          have n10_ : Aside0 (w190.heap[gb291]? = some (.cells #[.slice Ao47 t311.length co47] 26 (0, 0))) := ⟨h10_⟩
                          have n11_ : Aside0 (w190.heap[gb295]? = some (.cells #[.slice Ao56 t313.length co56] 26 (0, 0))) := ⟨h11_⟩
                          have n12_ : Aside0 (w190.heap[gb300]? = some (.cells #[.slice Ao65 t296.length co65] 26 (0, 0))) := ⟨h12_⟩
                          have n13_ : Aside0 (w190.heap[gb328]? = some (.cells #[.slice none 0 0] 26 (0, 0))) := ⟨h13_⟩
                          have n14_ : Aside0 (w.heap.size ≤ gb328) := ⟨h14_⟩
                          have n15_ : Aside0 (w.heap.size ≤ gb328) := ⟨h15_⟩
                          have n16_ : Aside0 (gb273 ≠ gb328) := ⟨h16_⟩
                          have n17_ : Aside0 (gb328 ≠ gb273) := ⟨h17_⟩
                          have n18_ : Aside0 (gb274 ≠ gb328) := ⟨h18_⟩
                          have n19_ : Aside0 (gb328 ≠ gb274) := ⟨h19_⟩
                          have n20_ : Aside0 (gb287 ≠ gb328) := ⟨h20_⟩
                          have n21_ : Aside0 (gb328 ≠ gb287) := ⟨h21_⟩
                          have n22_ : Aside0 (gb291 ≠ gb328) := ⟨h22_⟩
                          have n23_ : Aside0 (gb328 ≠ gb291) := ⟨h23_⟩
                          have n24_ : Aside0 (gb295 ≠ gb328) := ⟨h24_⟩
                          have n25_ : Aside0 (gb328 ≠ gb295) := ⟨h25_⟩
                          have n26_ : Aside0 (gb300 ≠ gb328) := ⟨h26_⟩
                          have n27_ : Aside0 (gb328 ≠ gb300) := ⟨h27_⟩
                          have n28_ : Aside0 (Below w.heap.size w w190) := ⟨h28_⟩
                          clear HO_288000
                          clear HO_292000
                          clear HO_296000
                          clear HO_301000
                          clear BK273
                          clear BK274
                          clear BK287
                          clear BK291
                          clear BK295
                          clear BK300
                          clear HB
                          clear h0_ h1_ h2_ h3_ h4_ h5_ h6_ h7_ h8_ h9_ h10_ h11_ h12_ h13_ h14_ h15_ h16_ h17_ h18_ h19_ h20_ h21_ h22_ h23_ h24_ h25_ h26_ h27_ h28_
                          have HO320 := n0_
                          have HO323 := n1_
                          have HO326 := n2_
                          have HO_288000 := n3_
                          have HO_292000 := n4_
                          have HO_296000 := n5_
                          have HO_301000 := n6_
                          have BK273 := n7_
                          have BK274 := n8_
                          have BK287 := n9_
                          have BK291 := n10_
                          have BK295 := n11_
                          have BK300 := n12_
                          have BK328 := n13_
                          have GW328 := n14_
                          have GE328 := n15_
                          have NB273_328 := n16_
                          have NB328_273 := n17_
                          have NB274_328 := n18_
                          have NB328_274 := n19_
                          have NB287_328 := n20_
                          have NB328_287 := n21_
                          have NB291_328 := n22_
                          have NB328_291 := n23_
                          have NB295_328 := n24_
                          have NB328_295 := n25_
                          have NB300_328 := n26_
                          have NB328_300 := n27_
                          have HB := n28_
                          bq245_q4
                          have hHeld : w190.cell? ⟨gb273, 0, none⟩ = some (.slice A0_0 l0_0.length c0_0) ∧ w190.cell? ⟨gb274, 0, none⟩ = some (.slice A1_0 l1_0.length c1_0) := hS_
                          obtain ⟨Ao191, co191, eo191⟩ := Kd.R_slice HO326.out
                          (first | subst eo191 | (injection eo191 with f1_ f2_ f3_; bq183_q4; subst f4_; subst f5_))
                          refine norm_ (a' := ?_) ?_ ?_
                          rotate_left
                          · simp only [putAll, Act.put, List.setIfInBounds_toArray, List.set_cons_zero, List.set_cons_succ]
                            rfl
                          bq224_q4
                          have hs192 : w190.cell? ⟨gb328, 0, none⟩ = some (.slice none 0 0) := (blk_cell BK328.out 0).trans rfl
                          have hfs192 := blk_frozen BK328.out 0
                          have hns192_0 := NB273_328.out
                          have hns192_1 := NB274_328.out
                          have hns192_2 := NB287_328.out
                          have hns192_3 := NB291_328.out
                          have hns192_4 := NB295_328.out
                          have hns192_5 := NB300_328.out
                          have hms192_0 := NB328_273.out
                          have hms192_1 := NB328_274.out
                          have hms192_2 := NB328_287.out
                          have hms192_3 := NB328_291.out
                          have hms192_4 := NB328_295.out
                          have hms192_5 := NB328_300.out
                          refine skip_ (w1 := ?_) (by rfl) rfl ?_ ?_
                          rotate_left
                          · go_simp
                            rfl
                          refine hK.out _ _ ⟨((cell_far (p := ⟨gb328, _, none⟩) NB273_328.out _).trans (hHeld.1)), ((cell_far (p := ⟨gb328, _, none⟩) NB274_328.out _).trans (hHeld.2))⟩ (fun hHeld => ?_)
                          clear hK K
                          refine pure_ (i := 10) (N := some 16) (v := ?_) (a' := ?_) #[true, true, true, true, true, true, true, true, true, true, true] rfl rfl (any_of HT_.out (by kernel_rfl)) (fun _ _ _ h => h) (Or.inl ⟨by rfl, ?_⟩) ?_ ?_
                          rotate_left
                          · intro w'
                            go_simp
                            with_reducible rfl
                          rotate_left
                          · bq154_q4
                            rfl
                          refine done_ (done_of HT_.out (by kernel_rfl)) ?_
                          go_upto_region 32 with (fail)
                          go_cut [110] (fun v110 wc => ∃ (kq : Nat) (x110_172 : Bool), v110 = .bool x110_172 ∧ Aside0 (laws_FnExactStackOf.j2 kq t315 x110_172 t316 = some r) ∧ Aside0 (kq ≤ kj106) ∧ Aside0 (Kd.R (Kd.int .i64) 3 wc w.heap.size (fun k_ => some k_ ≠ ((.slice Ao47 t311.length co47) : Value).ownBlock ∧ some k_ ≠ ((.slice Ao56 t313.length co56) : Value).ownBlock ∧ some k_ ≠ ((.slice Ao65 t296.length co65) : Value).ownBlock ∧ some k_ ≠ ((.slice Ao191 t324.length co191) : Value).ownBlock) (.slice Ao41 t283.length co41) t283) ∧ Aside0 (Kd.R (Kd.int .i64) 3 wc w.heap.size (fun k_ => some k_ ≠ ((.slice Ao41 t283.length co41) : Value).ownBlock ∧ some k_ ≠ ((.slice Ao56 t313.length co56) : Value).ownBlock ∧ some k_ ≠ ((.slice Ao65 t296.length co65) : Value).ownBlock ∧ some k_ ≠ ((.slice Ao191 t324.length co191) : Value).ownBlock) (.slice Ao47 t311.length co47) t311) ∧ Aside0 (Kd.R (Kd.int .i64) 3 wc w.heap.size (fun k_ => some k_ ≠ ((.slice Ao41 t283.length co41) : Value).ownBlock ∧ some k_ ≠ ((.slice Ao47 t311.length co47) : Value).ownBlock ∧ some k_ ≠ ((.slice Ao65 t296.length co65) : Value).ownBlock ∧ some k_ ≠ ((.slice Ao191 t324.length co191) : Value).ownBlock) (.slice Ao56 t313.length co56) t313) ∧ Aside0 (Kd.R (Kd.int .i64) 3 wc w.heap.size (fun k_ => some k_ ≠ ((.slice Ao41 t283.length co41) : Value).ownBlock ∧ some k_ ≠ ((.slice Ao47 t311.length co47) : Value).ownBlock ∧ some k_ ≠ ((.slice Ao56 t313.length co56) : Value).ownBlock ∧ some k_ ≠ ((.slice Ao191 t324.length co191) : Value).ownBlock) (.slice Ao65 t296.length co65) t316) ∧ Aside0 (Kd.R (Kd.int .i64) 3 wc w.heap.size (fun k_ => some k_ ≠ ((.slice Ao41 t283.length co41) : Value).ownBlock ∧ some k_ ≠ ((.slice Ao47 t311.length co47) : Value).ownBlock ∧ some k_ ≠ ((.slice Ao56 t313.length co56) : Value).ownBlock ∧ some k_ ≠ ((.slice Ao65 t296.length co65) : Value).ownBlock) (.slice Ao191 t324.length co191) t324) ∧ Aside0 (wc.heap[gb273]? = some (.cells #[(.slice A0_0 l0_0.length c0_0)] 24 (0, 0))) ∧ Aside0 (wc.heap[gb274]? = some (.cells #[(.slice A1_0 l1_0.length c1_0)] 24 (0, 0))) ∧ Aside0 (wc.heap[gb287]? = some (.cells #[(.slice Ao41 t283.length co41)] 26 (0, 0))) ∧ Aside0 (wc.heap[gb291]? = some (.cells #[(.slice Ao47 t311.length co47)] 26 (0, 0))) ∧ Aside0 (wc.heap[gb295]? = some (.cells #[(.slice Ao56 t313.length co56)] 26 (0, 0))) ∧ Aside0 (wc.heap[gb300]? = some (.cells #[(.slice Ao65 t296.length co65)] 26 (0, 0))) ∧ Aside0 (wc.heap[gb328]? = some (.cells #[(.slice Ao191 t324.length co191)] 26 (0, 0))) ∧ Aside0 (Below w.heap.size w wc))
                          case first =>
                            have H := HC173.out
                            clear HC173
                            replace H := Option.bind_eq_some_iff.mp H
                            obtain ⟨t329, A1930, H⟩ := H
                            replace H : (if t329 = true then (laws_FnExactStackOf.j2 kj106 t315 (t327 != t286) t316) else (laws_FnExactStackOf.j2 kj106 t315 true t316)) = some r := H
                            have A193 := Aside0.mk A1930
                            clear A1930
                            by_cases c194 : t329 = true
                            · subst c194
                              have H1 : (laws_FnExactStackOf.j2 kj106 t315 (t327 != t286) t316) = some r := by rw [if_pos rfl] at H; exact H
                              clear H
                              have H := H1
                              clear H1
                              have H' := Aside0.mk H
                              clear H
                              have hnb195 := NB328_273.out
                              have hnc195 := NB273_328.out
                              have hnb196 := NB328_274.out
                              have hnc196 := NB274_328.out
                              have hnb197 := NB328_287.out
                              have hnc197 := NB287_328.out
                              have hnb198 := NB328_291.out
                              have hnc198 := NB291_328.out
                              have hnb199 := NB328_295.out
                              have hnc199 := NB295_328.out
                              have hnb200 := NB328_300.out
                              have hnc200 := NB300_328.out
                              have hcz201_0 : w190.cell? ⟨gb328, 0, none⟩ = some (.slice none 0 0) := (blk_cell BK328.out 0).trans rfl
                              have hfz201_0 := blk_frozen BK328.out 0
                              have hnb202 := NB287_273.out
                              have hnc202 := NB273_287.out
                              have hnb203 := NB287_274.out
                              have hnc203 := NB274_287.out
                              have hnb204 := NB287_291.out
                              have hnc204 := NB291_287.out
                              have hnb205 := NB287_295.out
                              have hnc205 := NB295_287.out
                              have hnb206 := NB287_300.out
                              have hnc206 := NB300_287.out
                              have hcz207_0 : w190.cell? ⟨gb287, 0, none⟩ = some (.slice Ao41 t283.length co41) := (blk_cell BK287.out 0).trans rfl
                              have hfz207_0 := blk_frozen BK287.out 0
                              go_wp2_with (first | (bq152_q4; bq230_q4; (with_reducible refine (laws_eqPoset.calls kj106 _ _ t324 _ _ t283 true _ ?side1 ?side2 ?side3 ?side4 A193.out).mono ?_); bq40_q4; (case side2 => exact (Kd.R_reads' HO326.out).2.1); bq36_q4; bq151_q4; rintro e w208 ⟨rfl, hb⟩; refine ⟨_, rfl, ?_⟩; bq179_q4; bq220_q4; clear HO320; clear HO323; clear HO326; bq163_q4; clear BK300; clear BK328; bq172_q4; bq218_q4; bq227_q4; (try clear hb); bq206_q4))
                              go_meet
                              case rel => exact ⟨_, ((t327 != t286)), (by first | rfl | (simp; done) | (simp [*]; done)), H', ⟨by have := HJ24.out; have := HJ106.out; first | omega | exact Nat.le_refl _⟩, ⟨by (try simp only [hl292000_106]); (try simp only [hl296000_106]); bq2_q4; exact Kd.R_mono HO_288000.out (fun _ hk => ⟨hk.2.2.2.1, ⟨hk.2.2.2.2.1, ⟨hk.2.2.2.2.2, hk.2.2.1⟩⟩⟩)⟩, ⟨by (try simp only [hl292000_106]); (try simp only [hl296000_106]); bq2_q4; exact Kd.R_mono HO_292000.out (fun _ hk => ⟨hk.2.2.2.1, ⟨hk.2.2.2.2.1, ⟨hk.2.2.2.2.2, hk.2.2.1⟩⟩⟩)⟩, ⟨by (try simp only [hl292000_106]); (try simp only [hl296000_106]); bq2_q4; exact Kd.R_mono HO_296000.out (fun _ hk => ⟨hk.2.2.2.1, ⟨hk.2.2.2.2.1, ⟨hk.2.2.2.2.2, hk.2.2.1⟩⟩⟩)⟩, ⟨by (try simp only [hl292000_106]); (try simp only [hl296000_106]); bq2_q4; exact Kd.R_mono HO_301000.out (fun _ hk => ⟨hk.2.2.2.1, ⟨hk.2.2.2.2.1, ⟨hk.2.2.2.2.2, hk.2.2.1⟩⟩⟩)⟩, ⟨by (try simp only [hl292000_106]); (try simp only [hl296000_106]); bq2_q4; exact Kd.R_mono HO326.out (fun _ hk => ⟨hk.2.2.1, ⟨hk.2.2.2.1, ⟨hk.2.2.2.2.1, hk.2.2.2.2.2⟩⟩⟩)⟩, ⟨by (try simp only [hl292000_106]); (try simp only [hl296000_106]); bq1_q4; exact BK273.out⟩, ⟨by (try simp only [hl292000_106]); (try simp only [hl296000_106]); bq1_q4; exact BK274.out⟩, ⟨by (try simp only [hl292000_106]); (try simp only [hl296000_106]); bq1_q4; exact BK287.out⟩, ⟨by (try simp only [hl292000_106]); (try simp only [hl296000_106]); bq1_q4; exact BK291.out⟩, ⟨by (try simp only [hl292000_106]); (try simp only [hl296000_106]); bq1_q4; exact BK295.out⟩, ⟨by (try simp only [hl292000_106]); (try simp only [hl296000_106]); bq1_q4; exact BK300.out⟩, ⟨by (try simp only [hl292000_106]); (try simp only [hl296000_106]); bq1_q4; exact BK328.out⟩, ⟨by repeat bq4_q4⟩⟩
                            · replace c194 := Bool.eq_false_iff.mpr c194
                              subst c194
                              have H1 : (laws_FnExactStackOf.j2 kj106 t315 true t316) = some r := by rw [if_neg (show ¬ (false = true) by decide)] at H; exact H
                              clear H
                              have H := H1
                              clear H1
                              have H' := Aside0.mk H
                              clear H
                              have hnb209 := NB328_273.out
                              have hnc209 := NB273_328.out
                              have hnb210 := NB328_274.out
                              have hnc210 := NB274_328.out
                              have hnb211 := NB328_287.out
                              have hnc211 := NB287_328.out
                              have hnb212 := NB328_291.out
                              have hnc212 := NB291_328.out
                              have hnb213 := NB328_295.out
                              have hnc213 := NB295_328.out
                              have hnb214 := NB328_300.out
                              have hnc214 := NB300_328.out
                              have hcz215_0 : w190.cell? ⟨gb328, 0, none⟩ = some (.slice none 0 0) := (blk_cell BK328.out 0).trans rfl
                              have hfz215_0 := blk_frozen BK328.out 0
                              have hnb216 := NB287_273.out
                              have hnc216 := NB273_287.out
                              have hnb217 := NB287_274.out
                              have hnc217 := NB274_287.out
                              have hnb218 := NB287_291.out
                              have hnc218 := NB291_287.out
                              have hnb219 := NB287_295.out
                              have hnc219 := NB295_287.out
                              have hnb220 := NB287_300.out
                              have hnc220 := NB300_287.out
                              have hcz221_0 : w190.cell? ⟨gb287, 0, none⟩ = some (.slice Ao41 t283.length co41) := (blk_cell BK287.out 0).trans rfl
                              have hfz221_0 := blk_frozen BK287.out 0
                              go_wp2_with (first | (bq152_q4; bq230_q4; (with_reducible refine (laws_eqPoset.calls kj106 _ _ t324 _ _ t283 false _ ?side1 ?side2 ?side3 ?side4 A193.out).mono ?_); bq40_q4; (case side2 => exact (Kd.R_reads' HO326.out).2.1); bq36_q4; bq151_q4; rintro e w222 ⟨rfl, hb⟩; refine ⟨_, rfl, ?_⟩; bq179_q4; bq220_q4; clear HO320; clear HO323; clear HO326; bq163_q4; clear BK300; clear BK328; bq172_q4; bq218_q4; bq227_q4; (try clear hb); bq206_q4))
                              go_meet
                              case rel => exact ⟨_, (true), (by first | rfl | (simp; done) | (simp [*]; done)), H', ⟨by have := HJ24.out; have := HJ106.out; first | omega | exact Nat.le_refl _⟩, ⟨by (try simp only [hl292000_106]); (try simp only [hl296000_106]); bq2_q4; exact Kd.R_mono HO_288000.out (fun _ hk => ⟨hk.2.2.2.1, ⟨hk.2.2.2.2.1, ⟨hk.2.2.2.2.2, hk.2.2.1⟩⟩⟩)⟩, ⟨by (try simp only [hl292000_106]); (try simp only [hl296000_106]); bq2_q4; exact Kd.R_mono HO_292000.out (fun _ hk => ⟨hk.2.2.2.1, ⟨hk.2.2.2.2.1, ⟨hk.2.2.2.2.2, hk.2.2.1⟩⟩⟩)⟩, ⟨by (try simp only [hl292000_106]); (try simp only [hl296000_106]); bq2_q4; exact Kd.R_mono HO_296000.out (fun _ hk => ⟨hk.2.2.2.1, ⟨hk.2.2.2.2.1, ⟨hk.2.2.2.2.2, hk.2.2.1⟩⟩⟩)⟩, ⟨by (try simp only [hl292000_106]); (try simp only [hl296000_106]); bq2_q4; exact Kd.R_mono HO_301000.out (fun _ hk => ⟨hk.2.2.2.1, ⟨hk.2.2.2.2.1, ⟨hk.2.2.2.2.2, hk.2.2.1⟩⟩⟩)⟩, ⟨by (try simp only [hl292000_106]); (try simp only [hl296000_106]); bq2_q4; exact Kd.R_mono HO326.out (fun _ hk => ⟨hk.2.2.1, ⟨hk.2.2.2.1, ⟨hk.2.2.2.2.1, hk.2.2.2.2.2⟩⟩⟩)⟩, ⟨by (try simp only [hl292000_106]); (try simp only [hl296000_106]); bq1_q4; exact BK273.out⟩, ⟨by (try simp only [hl292000_106]); (try simp only [hl296000_106]); bq1_q4; exact BK274.out⟩, ⟨by (try simp only [hl292000_106]); (try simp only [hl296000_106]); bq1_q4; exact BK287.out⟩, ⟨by (try simp only [hl292000_106]); (try simp only [hl296000_106]); bq1_q4; exact BK291.out⟩, ⟨by (try simp only [hl292000_106]); (try simp only [hl296000_106]); bq1_q4; exact BK295.out⟩, ⟨by (try simp only [hl292000_106]); (try simp only [hl296000_106]); bq1_q4; exact BK300.out⟩, ⟨by (try simp only [hl292000_106]); (try simp only [hl296000_106]); bq1_q4; exact BK328.out⟩, ⟨by repeat bq4_q4⟩⟩
                          case rest =>
                            clear HC173
                            try clear c1
                            try clear c2
                            try clear p2
                            try clear c11
                            try clear c13
                            try clear c17
                            try clear c19
                            try clear c20
                            try clear c21
                            try clear c22
                            try clear c194
                            try clear c195
                            try clear c196
                            try clear c197
                            try clear c198
                            try clear c199
                            try clear c200
                            try clear c202
                            try clear c203
                            try clear c204
                            try clear c205
                            try clear c206
                            try clear c209
                            try clear c210
                            try clear c211
                            try clear c212
                            try clear c213
                            try clear c214
                            try clear c216
                            try clear c217
                            try clear c218
                            try clear c219
                            try clear c220
                            try clear hcz201_0
                            try clear hcz207_0
                            try clear hcz215_0
                            try clear hcz221_0
                            try clear hfz201_0
                            try clear hfz207_0
                            try clear hfz215_0
                            try clear hfz221_0
                            obtain ⟨kq, x110_172, rfl, HA, HJ172, HO_288000, HO_292000, HO_296000, HO_301000, HO_329000, BK273, BK274, BK287, BK291, BK295, BK300, BK328, HB⟩ := hcut
                            have hl301000_172 := (Kd.R_reads' HO_301000.out).1
                            rw [hl301000_172] at HO_301000
                            (try simp only [hl301000_172])
                            (try simp only [hl301000_172] at BK273)
                            (try simp only [hl301000_172] at BK274)
                            (try simp only [hl301000_172] at BK287)
                            (try simp only [hl301000_172] at BK291)
                            (try simp only [hl301000_172] at BK295)
                            (try simp only [hl301000_172] at BK300)
                            (try simp only [hl301000_172] at BK328)
                            (try simp only [hl301000_172] at HO_288000)
                            (try simp only [hl301000_172] at HO_292000)
                            (try simp only [hl301000_172] at HO_296000)
                            (try simp only [hl301000_172] at HO_329000)
                            cases kq with
                            | zero => exact absurd HA.out (by simp [laws_FnExactStackOf.j2])
                            | succ kj172 =>
                              have H := HA.out
                              clear HA
                              simp only [laws_FnExactStackOf.j2] at H
                              by_cases c223 : x110_172 = true
                              · subst c223
                                bq236_q4
                                clear H
                                have H := H1
                                clear H1
                                obtain rfl := Option.some.inj H
                                go_wp2
                                go_ret
                                bq191_q4
                              · replace c223 := Bool.eq_false_iff.mpr c223
                                subst c223
                                have H1 : ((laws_heldPoset.f kj172 t316 1).bind fun t330 => (if t330 < 0 then (some false) else (if t330 = t315 then (some true) else (some false)))) = some r := by rw [if_neg (show ¬ (false = true) by decide)] at H; exact H
                                clear H
                                have H := H1
                                clear H1
                                replace H := Option.bind_eq_some_iff.mp H
                                obtain ⟨t330, A2240, H⟩ := H
                                replace H : (if t330 < 0 then (some false) else (if t330 = t315 then (some true) else (some false))) = some r := H
                                have A224 := Aside0.mk A2240
                                clear A2240
                                by_cases c225 : t330 < 0
                                · rw [if_pos c225] at H
                                  have c225b0 : decide (t330 < 0) = true := decide_eq_true c225
                                  clear c225
                                  obtain rfl := Option.some.inj H
                                  have hnb226 := NB300_273.out
                                  have hnc226 := NB273_300.out
                                  have hnb227 := NB300_274.out
                                  have hnc227 := NB274_300.out
                                  have hnb228 := NB300_287.out
                                  have hnc228 := NB287_300.out
                                  have hnb229 := NB300_291.out
                                  have hnc229 := NB291_300.out
                                  have hnb230 := NB300_295.out
                                  have hnc230 := NB295_300.out
                                  have hnb231 := NB300_328.out
                                  have hnc231 := NB328_300.out
                                  have hcz232_0 : wc.cell? ⟨gb300, 0, none⟩ = some (.slice Ao65 t316.length co65) := (blk_cell BK300.out 0).trans rfl
                                  have hfz232_0 := blk_frozen BK300.out 0
                                  go_wp2_with (first | (bq82_q4; bq211_q4; bq98_q4; bq20_q4; bq103_q4; rintro e w233 ⟨rfl, hb⟩; refine ⟨_, rfl, ?_⟩; bq156_q4; bq164_q4; bq163_q4; clear BK300; clear BK328; bq172_q4; bq202_q4; bq165_q4))
                                  go_ret
                                  bq191_q4
                                · rw [if_neg c225] at H
                                  have c225b0 : decide (t330 < 0) = false := decide_eq_false c225
                                  clear c225
                                  by_cases c234 : t330 = t315
                                  · rw [if_pos c234] at H
                                    have c234b0 : (t330 == t315) = true := beq_iff_eq.mpr c234
                                    have c234b1 : (t330 != t315) = false := bne_eq_false_iff_eq.mpr c234
                                    clear c234
                                    obtain rfl := Option.some.inj H
                                    have hnb235 := NB300_273.out
                                    have hnc235 := NB273_300.out
                                    have hnb236 := NB300_274.out
                                    have hnc236 := NB274_300.out
                                    have hnb237 := NB300_287.out
                                    have hnc237 := NB287_300.out
                                    have hnb238 := NB300_291.out
                                    have hnc238 := NB291_300.out
                                    have hnb239 := NB300_295.out
                                    have hnc239 := NB295_300.out
                                    have hnb240 := NB300_328.out
                                    have hnc240 := NB328_300.out
                                    have hcz241_0 : wc.cell? ⟨gb300, 0, none⟩ = some (.slice Ao65 t316.length co65) := (blk_cell BK300.out 0).trans rfl
                                    have hfz241_0 := blk_frozen BK300.out 0
                                    go_wp2_with (first | (bq82_q4; bq211_q4; bq98_q4; bq20_q4; bq103_q4; rintro e w242 ⟨rfl, hb⟩; refine ⟨_, rfl, ?_⟩; bq156_q4; bq164_q4; bq163_q4; clear BK300; clear BK328; bq172_q4; bq202_q4; bq165_q4))
                                    go_ret
                                    bq191_q4
                                  · rw [if_neg c234] at H
                                    have c234b0 : (t330 == t315) = false := beq_eq_false_iff_ne.mpr c234
                                    have c234b1 : (t330 != t315) = true := bne_iff_ne.mpr c234
                                    obtain rfl := Option.some.inj H
                                    have hnb243 := NB300_273.out
                                    have hnc243 := NB273_300.out
                                    have hnb244 := NB300_274.out
                                    have hnc244 := NB274_300.out
                                    have hnb245 := NB300_287.out
                                    have hnc245 := NB287_300.out
                                    have hnb246 := NB300_291.out
                                    have hnc246 := NB291_300.out
                                    have hnb247 := NB300_295.out
                                    have hnc247 := NB295_300.out
                                    have hnb248 := NB300_328.out
                                    have hnc248 := NB328_300.out
                                    have hcz249_0 : wc.cell? ⟨gb300, 0, none⟩ = some (.slice Ao65 t316.length co65) := (blk_cell BK300.out 0).trans rfl
                                    have hfz249_0 := blk_frozen BK300.out 0
                                    go_wp2_with (first | (bq82_q4; bq211_q4; bq98_q4; bq20_q4; bq103_q4; rintro e w250 ⟨rfl, hb⟩; refine ⟨_, rfl, ?_⟩; bq156_q4; bq164_q4; bq163_q4; clear BK300; clear BK328; bq172_q4; bq202_q4; bq165_q4))
                                    go_ret
                                    bq191_q4
                        · rw [if_neg c169] at H
                          have c169b0 : (t317 == t315) = false := beq_eq_false_iff_ne.mpr c169
                          have c169b1 : (t317 != t315) = true := bne_iff_ne.mpr c169
                          obtain rfl := Option.some.inj H
                          have hnb251 := NB300_273.out
                          have hnc251 := NB273_300.out
                          have hnb252 := NB300_274.out
                          have hnc252 := NB274_300.out
                          have hnb253 := NB300_287.out
                          have hnc253 := NB287_300.out
                          have hnb254 := NB300_291.out
                          have hnc254 := NB291_300.out
                          have hnb255 := NB300_295.out
                          have hnc255 := NB295_300.out
                          have hcz256_0 : wc.cell? ⟨gb300, 0, none⟩ = some (.slice Ao65 t296.length co65) := (blk_cell BK300.out 0).trans rfl
                          have hfz256_0 := blk_frozen BK300.out 0
                          go_wp2_with (first | (bq108_q4; bq212_q4; bq54_q4; bq232_q4; rintro e w257 ⟨rfl, hy0, hb, hkp⟩; bq162_q4; clear HO_301000; bq163_q4; bq157_q4; (try clear hkp); (try clear hy0); have hcz258_0 : w257.cell? ⟨gb300, 0, none⟩ = some (.slice Ao65 t296.length co65) := (blk_cell BK300.out 0).trans rfl; have hfz258_0 := blk_frozen BK300.out 0) | (bq82_q4; bq209_q4; bq99_q4; bq20_q4; bq75_q4; rintro e w259 ⟨rfl, hb⟩; refine ⟨_, rfl, ?_⟩; bq156_q4; bq170_q4; bq163_q4; bq157_q4; bq206_q4))
                          go_ret
                          bq171_q4
              · replace c104 := Bool.eq_false_iff.mpr c104
                subst c104
                have H1 : (some false) = some r := by rw [if_neg (show ¬ (false = true) by decide)] at H; exact H
                clear H
                have H := H1
                clear H1
                obtain rfl := Option.some.inj H
                try go_wp2
                have n0_ := Aside0.mk (Kd.R_drew HO_288000.out)
                have n1_ := Aside0.mk (Kd.R_drew HO_292000.out)
                have n2_ := Aside0.mk (Kd.R_drew HO_296000.out)
                have n3_ := Aside0.mk (Kd.R_drew HO_301000.out)
                have n4_ := Aside0.mk (blk_drew BK273.out)
                have n5_ := Aside0.mk (blk_drew BK274.out)
                have n6_ := Aside0.mk (blk_drew BK287.out)
                have n7_ := Aside0.mk (blk_drew BK291.out)
                have n8_ := Aside0.mk (blk_drew BK295.out)
                have n9_ := Aside0.mk (blk_drew BK300.out)
                have n10_ := Aside0.mk (below_drew1 HB.out)
                clear HO_288000
                clear HO_292000
                clear HO_296000
                clear HO_301000
                clear BK273
                clear BK274
                clear BK287
                clear BK291
                clear BK295
                clear BK300
                clear HB
                have HO_288000 := n0_
                have HO_292000 := n1_
                have HO_296000 := n2_
                have HO_301000 := n3_
                have BK273 := n4_
                have BK274 := n5_
                have BK287 := n6_
                have BK291 := n7_
                have BK295 := n8_
                have BK300 := n9_
                have HB := n10_
                clear n0_ n1_ n2_ n3_ n4_ n5_ n6_ n7_ n8_ n9_ n10_
                refine start_ (n := 5) (S := fun w' => w'.cell? ⟨gb291, 0, none⟩ = some (.slice Ao47 t288.length co47) ∧ w'.cell? ⟨gb273, 0, none⟩ = some (.slice A0_0 l0_0.length c0_0)) (ds := []) #[false, false, false, false, false] (by kernel_rfl) rfl rfl ⟨(blk_cell BK291.out 0).trans rfl, (blk_cell BK273.out 0).trans rfl⟩ (fun hHeld => ?_)
                generalize wc.drew = w260 at HO_288000 HO_292000 HO_296000 HO_301000 BK273 BK274 BK287 BK291 BK295 BK300 HB hHeld ⊢
                bq197_q4
                rotate_left
                · rintro w' ⟨s0, s1⟩
                  go_simp
                  with_reducible rfl
                rotate_left
                · bq154_q4
                  rfl
                bq198_q4
                rotate_left
                · rintro w' ⟨s0, s1⟩
                  go_simp
                  with_reducible rfl
                rotate_left
                · bq154_q4
                  rfl
                bq215_q4
                bq169_q4
                with_reducible refine (laws_toPoset.calls kj24 _ _ l0_0 t302 _ ?side1 ?side2 A99.out).mono ?_
                bq18_q4
                (case side2 => exact HC0_0.out)
                rintro e w261 ⟨v303, rfl, ho0, hb⟩
                refine ⟨_, rfl, ?_⟩
                have n0_ := Aside0.mk bq30_q4
                have n1_ := Aside0.mk bq29_q4
                have n2_ := Aside0.mk bq28_q4
                have n3_ := Aside0.mk bq27_q4
                have n4_ := Aside0.mk bq153_q4
                have n5_ := Aside0.mk bq8_q4
                have n6_ := Aside0.mk bq9_q4
                have n7_ := Aside0.mk bq10_q4
                have n8_ := Aside0.mk bq19_q4
                have n9_ := Aside0.mk bq24_q4
                have n10_ := Aside0.mk bq11_q4
                bq192_q4
                clear HO_288000
                clear HO_292000
                clear HO_296000
                clear HO_301000
                clear BK273
                clear BK274
                clear BK287
                clear BK291
                clear BK295
                clear BK300
                clear HB
                have HO_288000 := n0_
                have HO_292000 := n1_
                have HO_296000 := n2_
                have HO_301000 := n3_
                have HO304 := n4_
                have BK273 := n5_
                have BK274 := n6_
                have BK287 := n7_
                have BK291 := n8_
                have BK295 := n9_
                have BK300 := n10_
                have HB := n11_
                bq210_q4
                (try clear hb)
                (try clear hb2)
                (try clear hk)
                (try clear hi)
                (try clear ho0)
                obtain ⟨Ao262, co262, eo262⟩ := Kd.R_slice HO304.out
                (first | subst eo262 | (injection eo262 with f1_ f2_ f3_; bq183_q4; subst f4_; subst f5_))
                bq180_q4
                clear hK K
                refine norm_ (a' := ?_) ?_ ?_
                rotate_left
                · show Act.put _ (some 56) _ = _
                  bq154_q4
                  rfl
                bq216_q4
                refine goes_ Try.func13 (by kernel_rfl) rfl #[.agg #[.slice Ao47 t288.length co47], .agg #[.slice Ao262 t302.length co262]] (by rfl) rfl rfl bq5_q4 ?_
                with_reducible refine (laws_eqPoset.calls kj24 _ _ t288 _ _ t302 true _ ?side1 ?side2 ?side3 ?side4 A100.out).mono ?_
                bq55_q4
                (case side2 => exact (Kd.R_reads' HO_292000.out).2.1)
                bq60_q4
                (case side4 => exact (Kd.R_reads' HO304.out).2.1)
                rintro e w263 ⟨rfl, hb⟩
                refine ⟨_, rfl, ?_⟩
                bq178_q4
                bq177_q4
                bq176_q4
                bq175_q4
                bq214_q4
                have n5_ := Aside0.mk bq8_q4
                have n6_ := Aside0.mk bq9_q4
                have n7_ := Aside0.mk bq10_q4
                have n8_ := Aside0.mk bq19_q4
                have n9_ := Aside0.mk bq24_q4
                have n10_ := Aside0.mk bq11_q4
                bq192_q4
                clear HO_288000
                clear HO_292000
                clear HO_296000
                clear HO_301000
                clear HO304
                clear BK273
                clear BK274
                clear BK287
                clear BK291
                clear BK295
                clear BK300
                clear HB
                have HO_288000 := n0_
                have HO_292000 := n1_
                have HO_296000 := n2_
                have HO_301000 := n3_
                have HO304 := n4_
                have BK273 := n5_
                have BK274 := n6_
                have BK287 := n7_
                have BK291 := n8_
                have BK295 := n9_
                have BK300 := n10_
                have HB := n11_
                bq210_q4
                (try clear hb)
                (try clear hb2)
                (try clear hk)
                (try clear hi)
                bq180_q4
                clear hK K
                refine norm_ (a' := ?_) ?_ ?_
                rotate_left
                · show Act.put _ (some 57) _ = _
                  bq154_q4
                  rfl
                bq201_q4
                rotate_left
                · intro w'
                  go_simp
                  with_reducible rfl
                rotate_left
                · bq154_q4
                  rfl
                refine done_ (by kernel_rfl) ?_
                try go_wp2
                have n0_ := Aside0.mk (Kd.R_drew HO_288000.out)
                have n1_ := Aside0.mk (Kd.R_drew HO_292000.out)
                have n2_ := Aside0.mk (Kd.R_drew HO_296000.out)
                have n3_ := Aside0.mk (Kd.R_drew HO_301000.out)
                have n4_ := Aside0.mk (Kd.R_drew HO304.out)
                have n5_ := Aside0.mk (blk_drew BK273.out)
                have n6_ := Aside0.mk (blk_drew BK274.out)
                have n7_ := Aside0.mk (blk_drew BK287.out)
                have n8_ := Aside0.mk (blk_drew BK291.out)
                have n9_ := Aside0.mk (blk_drew BK295.out)
                have n10_ := Aside0.mk (blk_drew BK300.out)
                have n11_ := Aside0.mk (below_drew1 HB.out)
                clear HO_288000
                clear HO_292000
                clear HO_296000
                clear HO_301000
                clear HO304
                clear BK273
                clear BK274
                clear BK287
                clear BK291
                clear BK295
                clear BK300
                clear HB
                have HO_288000 := n0_
                have HO_292000 := n1_
                have HO_296000 := n2_
                have HO_301000 := n3_
                have HO304 := n4_
                have BK273 := n5_
                have BK274 := n6_
                have BK287 := n7_
                have BK291 := n8_
                have BK295 := n9_
                have BK300 := n10_
                have HB := n11_
                bq210_q4
                refine start_ (n := 5) (S := fun w' => w'.cell? ⟨gb295, 0, none⟩ = some (.slice Ao56 t292.length co56) ∧ w'.cell? ⟨gb274, 0, none⟩ = some (.slice A1_0 l1_0.length c1_0)) (ds := []) #[false, false, false, false, false] (by kernel_rfl) rfl rfl ⟨(blk_cell BK295.out 0).trans rfl, (blk_cell BK274.out 0).trans rfl⟩ (fun hHeld => ?_)
                generalize w263.drew = w264 at HO_288000 HO_292000 HO_296000 HO_301000 HO304 BK273 BK274 BK287 BK291 BK295 BK300 HB hHeld ⊢
                bq225_q4
                rotate_left
                · rintro w' ⟨s0, s1⟩
                  go_simp
                  with_reducible rfl
                rotate_left
                · bq154_q4
                  rfl
                bq226_q4
                rotate_left
                · rintro w' ⟨s0, s1⟩
                  go_simp
                  with_reducible rfl
                rotate_left
                · bq154_q4
                  rfl
                bq242_q4
                bq166_q4
                with_reducible refine (laws_toPoset.calls kj24 _ _ l1_0 t306 _ ?side1 ?side2 A102.out).mono ?_
                bq17_q4
                (case side2 => exact HC1_0.out)
                rintro e w265 ⟨v307, rfl, ho0, hb⟩
                refine ⟨_, rfl, ?_⟩
                have n0_ := Aside0.mk bq30_q4
                have n1_ := Aside0.mk bq29_q4
                have n2_ := Aside0.mk bq28_q4
                have n3_ := Aside0.mk bq27_q4
                have n4_ := Aside0.mk (Kd.R_elder' (by bq2_q4; exact HO304.out) (Kd.R_base ho0) hb)
                bq238_q4
                have n6_ := Aside0.mk bq8_q4
                have n7_ := Aside0.mk bq9_q4
                have n8_ := Aside0.mk bq10_q4
                have n9_ := Aside0.mk bq19_q4
                have n10_ := Aside0.mk bq24_q4
                have n11_ := Aside0.mk bq11_q4
                bq208_q4
                clear HO_288000
                clear HO_292000
                clear HO_296000
                clear HO_301000
                clear HO304
                clear BK273
                clear BK274
                clear BK287
                clear BK291
                clear BK295
                clear BK300
                clear HB
                have HO_288000 := n0_
                have HO_292000 := n1_
                have HO_296000 := n2_
                have HO_301000 := n3_
                have HO304 := n4_
                have HO308 := n5_
                have BK273 := n6_
                have BK274 := n7_
                have BK287 := n8_
                have BK291 := n9_
                have BK295 := n10_
                have BK300 := n11_
                have HB := n12_
                bq189_q4
                (try clear hb)
                (try clear hb2)
                (try clear hk)
                (try clear hi)
                (try clear ho0)
                obtain ⟨Ao266, co266, eo266⟩ := Kd.R_slice HO308.out
                (first | subst eo266 | (injection eo266 with f1_ f2_ f3_; bq183_q4; subst f4_; subst f5_))
                bq203_q4
                clear hK K
                refine norm_ (a' := ?_) ?_ ?_
                rotate_left
                · show Act.put _ (some 61) _ = _
                  bq154_q4
                  rfl
                bq243_q4
                refine goes_ Try.func13 (by kernel_rfl) rfl #[.agg #[.slice Ao56 t292.length co56], .agg #[.slice Ao266 t306.length co266]] (by rfl) rfl rfl bq5_q4 ?_
                with_reducible refine (laws_eqPoset.calls kj24 _ _ t292 _ _ t306 false _ ?side1 ?side2 ?side3 ?side4 A103.out).mono ?_
                bq101_q4
                (case side2 => exact (Kd.R_reads' HO_296000.out).2.1)
                bq102_q4
                (case side4 => exact (Kd.R_reads' HO308.out).2.1)
                rintro e w267 ⟨rfl, hb⟩
                refine ⟨_, rfl, ?_⟩
                bq178_q4
                bq177_q4
                bq176_q4
                bq175_q4
                bq214_q4
                have n5_ := Aside0.mk (Kd.R_below (by bq2_q4; exact HO308.out) hb)
                have n6_ := Aside0.mk bq8_q4
                have n7_ := Aside0.mk bq9_q4
                have n8_ := Aside0.mk bq10_q4
                have n9_ := Aside0.mk bq19_q4
                have n10_ := Aside0.mk bq24_q4
                have n11_ := Aside0.mk bq11_q4
                bq208_q4
                clear HO_288000
                clear HO_292000
                clear HO_296000
                clear HO_301000
                clear HO304
                clear HO308
                clear BK273
                clear BK274
                clear BK287
                clear BK291
                clear BK295
                clear BK300
                clear HB
                have HO_288000 := n0_
                have HO_292000 := n1_
                have HO_296000 := n2_
                have HO_301000 := n3_
                have HO304 := n4_
                have HO308 := n5_
                have BK273 := n6_
                have BK274 := n7_
                have BK287 := n8_
                have BK291 := n9_
                have BK295 := n10_
                have BK300 := n11_
                have HB := n12_
                bq189_q4
                (try clear hb)
                (try clear hb2)
                (try clear hk)
                (try clear hi)
                bq203_q4
                clear hK K
                refine norm_ (a' := ?_) ?_ ?_
                rotate_left
                · show Act.put _ (some 62) _ = _
                  bq154_q4
                  rfl
                bq229_q4
                rotate_left
                · intro w'
                  go_simp
                  with_reducible rfl
                rotate_left
                · bq154_q4
                  rfl
                refine done_ (by kernel_rfl) ?_
                try go_wp2
                go_ret
                bq171_q4
            · replace c101 := Bool.eq_false_iff.mpr c101
              subst c101
              have H1 : (some false) = some r := by rw [if_neg (show ¬ (false = true) by decide)] at H; exact H
              clear H
              have H := H1
              clear H1
              obtain rfl := Option.some.inj H
              try go_wp2
              have n0_ := Aside0.mk (Kd.R_drew HO_288000.out)
              have n1_ := Aside0.mk (Kd.R_drew HO_292000.out)
              have n2_ := Aside0.mk (Kd.R_drew HO_296000.out)
              have n3_ := Aside0.mk (Kd.R_drew HO_301000.out)
              have n4_ := Aside0.mk (blk_drew BK273.out)
              have n5_ := Aside0.mk (blk_drew BK274.out)
              have n6_ := Aside0.mk (blk_drew BK287.out)
              have n7_ := Aside0.mk (blk_drew BK291.out)
              have n8_ := Aside0.mk (blk_drew BK295.out)
              have n9_ := Aside0.mk (blk_drew BK300.out)
              have n10_ := Aside0.mk (below_drew1 HB.out)
              clear HO_288000
              clear HO_292000
              clear HO_296000
              clear HO_301000
              clear BK273
              clear BK274
              clear BK287
              clear BK291
              clear BK295
              clear BK300
              clear HB
              have HO_288000 := n0_
              have HO_292000 := n1_
              have HO_296000 := n2_
              have HO_301000 := n3_
              have BK273 := n4_
              have BK274 := n5_
              have BK287 := n6_
              have BK291 := n7_
              have BK295 := n8_
              have BK300 := n9_
              have HB := n10_
              clear n0_ n1_ n2_ n3_ n4_ n5_ n6_ n7_ n8_ n9_ n10_
              refine start_ (n := 5) (S := fun w' => w'.cell? ⟨gb291, 0, none⟩ = some (.slice Ao47 t288.length co47) ∧ w'.cell? ⟨gb273, 0, none⟩ = some (.slice A0_0 l0_0.length c0_0)) (ds := []) #[false, false, false, false, false] (by kernel_rfl) rfl rfl ⟨(blk_cell BK291.out 0).trans rfl, (blk_cell BK273.out 0).trans rfl⟩ (fun hHeld => ?_)
              generalize wc.drew = w268 at HO_288000 HO_292000 HO_296000 HO_301000 BK273 BK274 BK287 BK291 BK295 BK300 HB hHeld ⊢
              bq197_q4
              rotate_left
              · rintro w' ⟨s0, s1⟩
                go_simp
                with_reducible rfl
              rotate_left
              · bq154_q4
                rfl
              bq198_q4
              rotate_left
              · rintro w' ⟨s0, s1⟩
                go_simp
                with_reducible rfl
              rotate_left
              · bq154_q4
                rfl
              bq215_q4
              bq169_q4
              with_reducible refine (laws_toPoset.calls kj24 _ _ l0_0 t302 _ ?side1 ?side2 A99.out).mono ?_
              bq18_q4
              (case side2 => exact HC0_0.out)
              rintro e w269 ⟨v303, rfl, ho0, hb⟩
              refine ⟨_, rfl, ?_⟩
              have n0_ := Aside0.mk bq30_q4
              have n1_ := Aside0.mk bq29_q4
              have n2_ := Aside0.mk bq28_q4
              have n3_ := Aside0.mk bq27_q4
              have n4_ := Aside0.mk bq153_q4
              have n5_ := Aside0.mk bq8_q4
              have n6_ := Aside0.mk bq9_q4
              have n7_ := Aside0.mk bq10_q4
              have n8_ := Aside0.mk bq19_q4
              have n9_ := Aside0.mk bq24_q4
              have n10_ := Aside0.mk bq11_q4
              bq192_q4
              clear HO_288000
              clear HO_292000
              clear HO_296000
              clear HO_301000
              clear BK273
              clear BK274
              clear BK287
              clear BK291
              clear BK295
              clear BK300
              clear HB
              have HO_288000 := n0_
              have HO_292000 := n1_
              have HO_296000 := n2_
              have HO_301000 := n3_
              have HO304 := n4_
              have BK273 := n5_
              have BK274 := n6_
              have BK287 := n7_
              have BK291 := n8_
              have BK295 := n9_
              have BK300 := n10_
              have HB := n11_
              bq210_q4
              (try clear hb)
              (try clear hb2)
              (try clear hk)
              (try clear hi)
              (try clear ho0)
              obtain ⟨Ao270, co270, eo270⟩ := Kd.R_slice HO304.out
              (first | subst eo270 | (injection eo270 with f1_ f2_ f3_; bq183_q4; subst f4_; subst f5_))
              bq180_q4
              clear hK K
              refine norm_ (a' := ?_) ?_ ?_
              rotate_left
              · show Act.put _ (some 56) _ = _
                bq154_q4
                rfl
              bq216_q4
              refine goes_ Try.func13 (by kernel_rfl) rfl #[.agg #[.slice Ao47 t288.length co47], .agg #[.slice Ao270 t302.length co270]] (by rfl) rfl rfl bq5_q4 ?_
              with_reducible refine (laws_eqPoset.calls kj24 _ _ t288 _ _ t302 false _ ?side1 ?side2 ?side3 ?side4 A100.out).mono ?_
              bq55_q4
              (case side2 => exact (Kd.R_reads' HO_292000.out).2.1)
              bq60_q4
              (case side4 => exact (Kd.R_reads' HO304.out).2.1)
              rintro e w271 ⟨rfl, hb⟩
              refine ⟨_, rfl, ?_⟩
              bq178_q4
              bq177_q4
              bq176_q4
              bq175_q4
              bq214_q4
              have n5_ := Aside0.mk bq8_q4
              have n6_ := Aside0.mk bq9_q4
              have n7_ := Aside0.mk bq10_q4
              have n8_ := Aside0.mk bq19_q4
              have n9_ := Aside0.mk bq24_q4
              have n10_ := Aside0.mk bq11_q4
              bq192_q4
              clear HO_288000
              clear HO_292000
              clear HO_296000
              clear HO_301000
              clear HO304
              clear BK273
              clear BK274
              clear BK287
              clear BK291
              clear BK295
              clear BK300
              clear HB
              have HO_288000 := n0_
              have HO_292000 := n1_
              have HO_296000 := n2_
              have HO_301000 := n3_
              have HO304 := n4_
              have BK273 := n5_
              have BK274 := n6_
              have BK287 := n7_
              have BK291 := n8_
              have BK295 := n9_
              have BK300 := n10_
              have HB := n11_
              bq210_q4
              (try clear hb)
              (try clear hb2)
              (try clear hk)
              (try clear hi)
              bq180_q4
              clear hK K
              refine norm_ (a' := ?_) ?_ ?_
              rotate_left
              · show Act.put _ (some 57) _ = _
                bq154_q4
                rfl
              bq201_q4
              rotate_left
              · intro w'
                go_simp
                with_reducible rfl
              rotate_left
              · bq154_q4
                rfl
              refine done_ (by kernel_rfl) ?_
              try go_wp2
              go_ret
              bq171_q4

end Go.Proofs.Ytinnobjcphfejaa.B
