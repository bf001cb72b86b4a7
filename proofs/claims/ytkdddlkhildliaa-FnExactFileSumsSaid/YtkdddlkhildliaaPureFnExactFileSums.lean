import Derived.Test.YtkdddlkhildliaaWWords
import Derived.Test.YtkdddlkhildliaaWMore
import Derived.Laws.BitsLemmas
import Derived.Test.YtkdddlkhildliaaB1
import Derived.Test.YtkdddlkhildliaaB12
import Derived.Test.YtkdddlkhildliaaB13
import Derived.Test.YtkdddlkhildliaaB14
import Derived.Test.YtkdddlkhildliaaB18
import Derived.Test.YtkdddlkhildliaaB2
import Derived.Test.YtkdddlkhildliaaB26
import Derived.Test.YtkdddlkhildliaaB27
import Derived.Test.YtkdddlkhildliaaB4
import Derived.Test.YtkdddlkhildliaaB8
import Derived.Test.YtkdddlkhildliaaB9
/-! ### M -/
/- Plain laws on whole numbers, bits and lists, with no program in sight: what the proofs over the printed functions rest on. -/
namespace Go.Proofs.Ytkdddlkhildliaa.M
open Go.RowKit Go.Proofs.YtkdddlkhildliaaW.PrintWords Go.Proofs.YtkdddlkhildliaaW.PrintLast Go.Proofs.YtkdddlkhildliaaW.PrintMore

/-! ### rounds -/
theorem ev_now {α : Type} (r : α) : Ev (fun _ => some r) r := Ev.now r
theorem ev_const {α : Type} {g : Option α} {r : α} (h : g = some r) : Ev (fun _ => g) r := ⟨0, fun _ _ => h⟩
theorem ev_eq {α : Type} {g : Nat → Option α} {r r' : α} (h : Ev g r) (e : r = r') : Ev g r' := e ▸ h
theorem ev_unique {α : Type} {g : Nat → Option α} {r r' : α} (h : Ev g r) (h' : Ev g r') : r = r' := by
  obtain ⟨K, h⟩ := h
  obtain ⟨K', h'⟩ := h'
  have h1 := h (max K K') (by omega)
  have h2 := h' (max K K') (by omega)
  rw [h1] at h2
  exact Option.some.inj h2
/-- One round of a loop: what follows is told first. -/
theorem ev_step {α : Type} {g f : Nat → Option α} {r : α} (k : Ev f r) (h : ∀ k, g (k + 1) = f k) : Ev g r := Ev.step h k
theorem ev_as {α : Type} {g f : Nat → Option α} {r : α} (k : Ev f r) (h : ∀ k, g k = f k) : Ev g r := Ev.congr h k
theorem ev_bind {α β : Type} {A : Nat → Option α} {F : Nat → α → Option β} {g : Nat → Option β} {a : α} {r : β} (ha : Ev A a) (hb : Ev (fun n => F n a) r) (h : ∀ k, g k = (A k).bind (F k)) : Ev g r := Ev.congr h (Ev.bind ha hb)
theorem ev_stepb {α β : Type} {A : Nat → Option α} {F : Nat → α → Option β} {g : Nat → Option β} {a : α} {r : β} (ha : Ev A a) (hb : Ev (fun n => F n a) r) (h : ∀ k, g (k + 1) = (A k).bind (F k)) : Ev g r := Ev.step h (Ev.bind ha hb)
/-- A loop over places, told backwards: what holds from each place on. -/
theorem ev_down {σ β : Type} (g : Nat → σ → Int → Option β) (R : Nat → σ → β) (n : Nat) (Inv : Nat → σ → Prop)
    (hn : ∀ st, Inv n st → Ev (fun k => g k st (n : Int)) (R n st))
    (hs : ∀ (i : Nat) st, i < n → Inv i st → (∀ st', Inv (i + 1) st' → Ev (fun k => g k st' ((i : Int) + 1)) (R (i + 1) st')) → Ev (fun k => g k st (i : Int)) (R i st)) :
    ∀ (i : Nat) st, i ≤ n → Inv i st → Ev (fun k => g k st (i : Int)) (R i st) := by
  have H : ∀ d i st, n - i = d → i ≤ n → Inv i st → Ev (fun k => g k st (i : Int)) (R i st) := by
    intro d
    induction d with
    | zero =>
      intro i st hd hi hI
      obtain rfl : i = n := by omega
      exact hn st hI
    | succ d ih =>
      intro i st hd hi hI
      refine hs i st (by omega) hI (fun st' hI' => ?_)
      have := ih (i + 1) st' (by omega) (by omega) hI'
      rwa [show (((i + 1 : Nat)) : Int) = (i : Int) + 1 by omega] at this
  exact fun i st hi hI => H (n - i) i st rfl hi hI

/-! ### numbers -/
theorem wrap64_id {x : Int} (h1 : -9223372036854775808 ≤ x) (h2 : x ≤ 9223372036854775807) : wrap64 x = x := by unfold wrap64; omega
theorem rd_nat (l : List Int) (i : Nat) : rd l (i : Int) = l.getD i 0 := by unfold rd; rw [Int.toNat_natCast]
theorem rd_cast (l : List Nat) (i : Nat) : rd (l.map (fun x : Nat => (x : Int))) (i : Int) = ((l.getD i 0 : Nat) : Int) := by
  rw [rd_nat]
  simp only [List.getD_eq_getElem?_getD, List.getElem?_map]
  cases l[i]? <;> simp

/-! ### bits of small natural numbers -/
theorem w63 (n : Int) (h0 : 0 ≤ n) (h1 : n < 2 ^ 63) : IntKind.i64.wrap n = n := by rw [IntKind.wrap_i64]; omega
theorem and_nat {a b : Nat} (ha : a < 2 ^ 63) (hb : b < 2 ^ 63) : Go.bits .and .i64 (a : Int) (b : Int) = ((a &&& b : Nat) : Int) := (bits_nat .i64 63 (by decide) w63 a b ha hb).1
theorem or_nat {a b : Nat} (ha : a < 2 ^ 63) (hb : b < 2 ^ 63) : Go.bits .or .i64 (a : Int) (b : Int) = ((a ||| b : Nat) : Int) := (bits_nat .i64 63 (by decide) w63 a b ha hb).2
/-- What a set has beyond another. -/
def sd (a b : Nat) : Nat := a ^^^ (a &&& b)
theorem sd_bit (a b i : Nat) : (sd a b).testBit i = (a.testBit i && !b.testBit i) := by
  unfold sd
  rw [Nat.testBit_xor, Nat.testBit_and]
  cases a.testBit i <;> cases b.testBit i <;> rfl
theorem sd_lt {a b n : Nat} (ha : a < 2 ^ n) : sd a b < 2 ^ n := Nat.xor_lt_two_pow ha (Nat.lt_of_le_of_lt Nat.and_le_left ha)
theorem andNot_nat {a b : Nat} (ha : a < 2 ^ 63) (hb : b < 2 ^ 63) : Go.bits .andNot .i64 (a : Int) (b : Int) = ((sd a b : Nat) : Int) := by
  have h1 : (BitVec.ofInt 64 (a : Int) &&& ~~~ BitVec.ofInt 64 (b : Int)).toNat = sd a b := by
    apply Nat.eq_of_testBit_eq
    intro i
    rw [BitVec.testBit_toNat, sd_bit, BitVec.getLsbD_and, BitVec.getLsbD_not, ← BitVec.testBit_toNat, ← BitVec.testBit_toNat, BitVec.ofInt_natCast, BitVec.ofInt_natCast, BitVec.toNat_ofNat, BitVec.toNat_ofNat,
      Nat.mod_eq_of_lt (by omega : a < 2 ^ 64), Nat.mod_eq_of_lt (by omega : b < 2 ^ 64)]
    by_cases hi : i < 64
    · simp [hi]
    · have : a.testBit i = false := Nat.testBit_lt_two_pow (Nat.lt_of_lt_of_le (by omega : a < 2 ^ 64) (Nat.pow_le_pow_right (by decide) (by omega)))
      simp [this]
  show IntKind.i64.wrap ((BitVec.ofInt 64 (a : Int) &&& ~~~ BitVec.ofInt 64 (b : Int)).toNat : Int) = _
  rw [h1]
  have := sd_lt (b := b) ha
  exact w63 _ (by omega) (by exact_mod_cast this)
theorem xor_nat {a b : Nat} (ha : a < 2 ^ 63) (hb : b < 2 ^ 63) : Go.bits .xor .i64 (a : Int) (b : Int) = ((a ^^^ b : Nat) : Int) := by
  have h1 : (BitVec.ofInt 64 (a : Int) ^^^ BitVec.ofInt 64 (b : Int)).toNat = a ^^^ b := by
    rw [BitVec.toNat_xor, BitVec.ofInt_natCast, BitVec.ofInt_natCast, BitVec.toNat_ofNat, BitVec.toNat_ofNat, Nat.mod_eq_of_lt (by omega : a < 2 ^ 64), Nat.mod_eq_of_lt (by omega : b < 2 ^ 64)]
  show IntKind.i64.wrap ((BitVec.ofInt 64 (a : Int) ^^^ BitVec.ofInt 64 (b : Int)).toNat : Int) = _
  rw [h1]
  have := Nat.xor_lt_two_pow ha hb
  exact w63 _ (by omega) (by exact_mod_cast this)
theorem shl_one {i : Nat} (hi : i < 63) : shl .i64 1 (i : Int) = ((2 ^ i : Nat) : Int) := by
  unfold shl
  rw [Int.toNat_natCast, show IntKind.i64.bits = 64 from rfl, Nat.min_eq_left (by omega), Int.one_mul]
  have h : (2 : Nat) ^ i < 2 ^ 63 := Nat.pow_lt_pow_right (by decide) hi
  rw [w63 _ (Int.pow_nonneg (by decide)) (by exact_mod_cast h)]
  simp
theorem shr_nat {s i : Nat} (hi : i ≤ 64) : shr .i64 (s : Int) (i : Int) = ((s / 2 ^ i : Nat) : Int) := by
  unfold shr
  rw [Int.toNat_natCast, show IntKind.i64.bits = 64 from rfl, Nat.min_eq_left hi]
  simp
theorem bit_div (s i : Nat) : s.testBit i = decide (s / 2 ^ i % 2 = 1) := by
  rw [Nat.testBit_eq_decide_div_mod_eq]
theorem bit_tmod {s i : Nat} (hi : i ≤ 64) : (Int.tmod (shr .i64 (s : Int) (i : Int)) 2 = 1) ↔ s.testBit i = true := by
  rw [shr_nat hi, bit_div, decide_eq_true_eq, Int.tmod_eq_emod_of_nonneg (Int.natCast_nonneg _)]
  generalize s / 2 ^ i = q
  omega
theorem bit_and1 {s i : Nat} (hs : s < 2 ^ 63) (hi : i ≤ 64) : (Go.bits .and .i64 (shr .i64 (s : Int) (i : Int)) 1 = 1) ↔ s.testBit i = true := by
  have h2 : s / 2 ^ i < 2 ^ 63 := Nat.lt_of_le_of_lt (Nat.div_le_self _ _) hs
  rw [shr_nat hi, show (1 : Int) = ((1 : Nat) : Int) from rfl, and_nat h2 (by decide), bit_div, decide_eq_true_eq, Nat.and_one_is_mod]
  omega
theorem two_pow_le {i j : Nat} (h : i ≤ j) : (2 : Nat) ^ i ≤ 2 ^ j := Nat.pow_le_pow_right (by decide) h
theorem two_pow_lt63 {i : Nat} (h : i < 63) : (2 : Nat) ^ i < 2 ^ 63 := Nat.pow_lt_pow_right (by decide) h
theorem mask_sub {i : Nat} (hi : i < 63) : wrap64 (shl .i64 1 (i : Int) - 1) = ((2 ^ i - 1 : Nat) : Int) := by
  rw [shl_one hi]
  have h := two_pow_lt63 hi
  have h1 : 1 ≤ 2 ^ i := Nat.one_le_two_pow
  unfold wrap64
  omega

/-! ### folds from a place on -/
def foldFrom {σ : Type} (f : σ → Nat → σ) (i n : Nat) (st : σ) : σ := (List.range' i (n - i)).foldl f st
theorem foldFrom_end {σ : Type} (f : σ → Nat → σ) (n : Nat) (st : σ) : foldFrom f n n st = st := by unfold foldFrom; simp
theorem foldFrom_step {σ : Type} (f : σ → Nat → σ) {i n : Nat} (h : i < n) (st : σ) : foldFrom f i n st = foldFrom f (i + 1) n (f st i) := by
  unfold foldFrom
  obtain ⟨d, hd⟩ : ∃ d, n - i = d + 1 := ⟨n - i - 1, by omega⟩
  rw [hd, show n - (i + 1) = d by omega, List.range'_succ, List.foldl_cons]
def allFrom (f : Nat → Bool) (i n : Nat) : Bool := (List.range' i (n - i)).all f
theorem allFrom_end (f : Nat → Bool) (n : Nat) : allFrom f n n = true := by unfold allFrom; simp
theorem allFrom_step (f : Nat → Bool) {i n : Nat} (h : i < n) : allFrom f i n = (f i && allFrom f (i + 1) n) := by
  unfold allFrom
  obtain ⟨d, hd⟩ : ∃ d, n - i = d + 1 := ⟨n - i - 1, by omega⟩
  rw [hd, show n - (i + 1) = d by omega, List.range'_succ, List.all_cons]
theorem allFrom_iff (f : Nat → Bool) (i n : Nat) : allFrom f i n = true ↔ ∀ j, i ≤ j → j < n → f j = true := by
  unfold allFrom
  rw [List.all_eq_true]
  constructor
  · intro h j h1 h2
    exact h j (by rw [List.mem_range'_1]; omega)
  · intro h j hj
    rw [List.mem_range'_1] at hj
    exact h j (by omega) (by omega)
theorem drop_step {α : Type} (xs : List α) (d : α) {i : Nat} (h : i < xs.length) : xs.drop i = xs.getD i d :: xs.drop (i + 1) := by
  rw [List.drop_eq_getElem_cons h]
  congr 1
  rw [List.getD_eq_getElem?_getD, List.getElem?_eq_getElem h, Option.getD_some]

theorem getD_memN {o : List Nat} {i : Nat} (h : i < o.length) : o.getD i 0 ∈ o := by
  rw [List.getD_eq_getElem?_getD, List.getElem?_eq_getElem h, Option.getD_some]; exact List.getElem_mem h
/-! ### sets of elements below 10 -/
def items (s : Nat) : List Nat := (List.range 10).filter (fun e => s.testBit e)
def itemsUpto (s e : Nat) : List Nat := (List.range e).filter (fun e => s.testBit e)
theorem mem_items {s e : Nat} : e ∈ items s ↔ e < 10 ∧ s.testBit e = true := by
  unfold items; rw [List.mem_filter, List.mem_range]
theorem bit_lt {s n e : Nat} (hs : s < 2 ^ n) (h : s.testBit e = true) : e < n := by
  rcases Nat.lt_or_ge e n with h1 | h1
  · exact h1
  · have := Nat.testBit_lt_two_pow (Nat.lt_of_lt_of_le hs (two_pow_le h1))
    rw [this] at h; cases h
theorem filter_range_ext {s n m : Nat} (hs : s < 2 ^ n) (hm : n ≤ m) : (List.range m).filter (fun e => s.testBit e) = (List.range n).filter (fun e => s.testBit e) := by
  obtain ⟨d, rfl⟩ : ∃ d, m = n + d := ⟨m - n, by omega⟩
  induction d with
  | zero => rfl
  | succ d ih =>
    rw [← Nat.add_assoc, List.range_succ, List.filter_append, ih (by omega)]
    have : s.testBit (n + d) = false := Nat.testBit_lt_two_pow (Nat.lt_of_lt_of_le hs (two_pow_le (by omega)))
    simp [this]
theorem items_eq {s n : Nat} (hs : s < 2 ^ n) (hn : n ≤ 10) : items s = (List.range n).filter (fun e => s.testBit e) := filter_range_ext hs hn
theorem foldl_filter {α σ : Type} (p : α → Bool) (f : σ → α → σ) (l : List α) (st : σ) : (l.filter p).foldl f st = l.foldl (fun st x => if p x then f st x else st) st := by
  induction l generalizing st with
  | nil => rfl
  | cons x l ih =>
    rw [List.filter_cons]
    cases hp : p x <;> simp [hp, ih]
/-- What a fold over the elements of a set is: a fold over all places. -/
theorem fold_items {σ : Type} (f : σ → Nat → σ) {s n : Nat} (hs : s < 2 ^ n) (hn : n ≤ 10) (st : σ) : (items s).foldl f st = foldFrom (fun st e => if s.testBit e then f st e else st) 0 n st := by
  rw [items_eq hs hn, foldl_filter]
  unfold foldFrom
  rw [Nat.sub_zero, List.range_eq_range']
theorem all_filter {α : Type} (p f : α → Bool) (l : List α) : (l.filter p).all f = l.all (fun x => !p x || f x) := by
  induction l with
  | nil => rfl
  | cons x l ih =>
    rw [List.filter_cons]
    cases hp : p x <;> simp [hp, ih]
theorem all_items (f : Nat → Bool) {s n : Nat} (hs : s < 2 ^ n) (hn : n ≤ 10) : (items s).all f = allFrom (fun e => !s.testBit e || f e) 0 n := by
  rw [items_eq hs hn, all_filter]
  unfold allFrom
  rw [Nat.sub_zero, List.range_eq_range']

/-! ### sets of elements of a poset, told by their bits -/
theorem foldFrom_inv {σ : Type} (f : σ → Nat → σ) (Q : Nat → σ → Prop) (n : Nat) (hs : ∀ i st, i < n → Q i st → Q (i + 1) (f st i)) : ∀ (i : Nat) (st : σ), i ≤ n → Q i st → Q n (foldFrom f i n st) := by
  have H : ∀ d i st, n - i = d → i ≤ n → Q i st → Q n (foldFrom f i n st) := by
    intro d
    induction d with
    | zero =>
      intro i st hd hi hQ
      obtain rfl : i = n := by omega
      rw [foldFrom_end]; exact hQ
    | succ d ih =>
      intro i st hd hi hQ
      rw [foldFrom_step _ (by omega)]
      exact ih (i + 1) _ (by omega) (by omega) (hs i st (by omega) hQ)
  exact fun i st hi hQ => H (n - i) i st rfl hi hQ
/-- The least ideal with a set. -/
def dn (P : List Nat) (s : Nat) : Nat := foldFrom (fun o i => if s.testBit i then o ||| P.getD i 0 else o) 0 P.length s
/-- What is not less than another one of the set. -/
def tp (P : List Nat) (s : Nat) : Nat := foldFrom (fun o i => if s.testBit i then sd o (P.getD i 0) else o) 0 P.length s
/-- What has nothing of the set below. -/
def bm (P : List Nat) (s : Nat) : Nat := foldFrom (fun o i => if s.testBit i then (if P.getD i 0 &&& s = 0 then o ||| 2 ^ i else o) else o) 0 P.length 0
/-- Is the set an ideal? -/
def idl (P : List Nat) (s : Nat) : Bool := allFrom (fun i => !s.testBit i || decide (sd (P.getD i 0) s = 0)) 0 P.length
theorem sd_eq_zero {a b : Nat} : sd a b = 0 ↔ ∀ j, a.testBit j = true → b.testBit j = true := by
  constructor
  · intro h j hj
    have := sd_bit a b j
    rw [h, Nat.zero_testBit, hj] at this
    cases hb : b.testBit j <;> simp [hb] at this ⊢
  · intro h
    apply Nat.eq_of_testBit_eq
    intro j
    rw [sd_bit, Nat.zero_testBit]
    cases hj : a.testBit j with
    | false => rfl
    | true => rw [h j hj]; rfl
theorem and_eq_zero {a b : Nat} : a &&& b = 0 ↔ ∀ j, a.testBit j = true → b.testBit j = false := by
  constructor
  · intro h j hj
    have := Nat.testBit_and a b j
    rw [h, Nat.zero_testBit, hj, Bool.true_and] at this
    exact this.symm
  · intro h
    apply Nat.eq_of_testBit_eq
    intro j
    rw [Nat.testBit_and, Nat.zero_testBit]
    cases hj : a.testBit j with
    | false => rfl
    | true => rw [h j hj]; rfl
theorem dn_bit (P : List Nat) (s j : Nat) : (dn P s).testBit j = true ↔ s.testBit j = true ∨ ∃ i, i < P.length ∧ s.testBit i = true ∧ (P.getD i 0).testBit j = true := by
  have H := foldFrom_inv (fun o i => if s.testBit i then o ||| P.getD i 0 else o) (fun m o => o.testBit j = true ↔ s.testBit j = true ∨ ∃ i, i < m ∧ s.testBit i = true ∧ (P.getD i 0).testBit j = true) P.length ?_ 0 s (by omega) ?_
  · exact H
  · intro i o hi hQ
    cases hb : s.testBit i with
    | true =>
      rw [if_pos rfl, Nat.testBit_or, Bool.or_eq_true, hQ]
      constructor
      · rintro ((h | ⟨i', h1, h2, h3⟩) | h)
        · exact .inl h
        · exact .inr ⟨i', by omega, h2, h3⟩
        · exact .inr ⟨i, by omega, hb, h⟩
      · rintro (h | ⟨i', h1, h2, h3⟩)
        · exact .inl (.inl h)
        · rcases Nat.lt_or_ge i' i with h4 | h4
          · exact .inl (.inr ⟨i', h4, h2, h3⟩)
          · rw [show i' = i by omega] at h3; exact .inr h3
    | false =>
      rw [if_neg (by simp), hQ]
      constructor
      · rintro (h | ⟨i', h1, h2, h3⟩)
        · exact .inl h
        · exact .inr ⟨i', by omega, h2, h3⟩
      · rintro (h | ⟨i', h1, h2, h3⟩)
        · exact .inl h
        · rcases Nat.lt_or_ge i' i with h4 | h4
          · exact .inr ⟨i', h4, h2, h3⟩
          · rw [show i' = i by omega, hb] at h2; cases h2
  · constructor
    · exact .inl
    · rintro (h | ⟨i', h1, _⟩)
      · exact h
      · omega
theorem tp_bit (P : List Nat) (s j : Nat) : (tp P s).testBit j = true ↔ s.testBit j = true ∧ ∀ i, i < P.length → s.testBit i = true → (P.getD i 0).testBit j = false := by
  have H := foldFrom_inv (fun o i => if s.testBit i then sd o (P.getD i 0) else o) (fun m o => o.testBit j = true ↔ s.testBit j = true ∧ ∀ i, i < m → s.testBit i = true → (P.getD i 0).testBit j = false) P.length ?_ 0 s (by omega) ?_
  · exact H
  · intro i o hi hQ
    cases hb : s.testBit i with
    | true =>
      rw [if_pos rfl, sd_bit, Bool.and_eq_true, hQ]
      constructor
      · rintro ⟨⟨h1, h2⟩, h3⟩
        refine ⟨h1, fun i' hi' hs' => ?_⟩
        rcases Nat.lt_or_ge i' i with h4 | h4
        · exact h2 i' h4 hs'
        · rw [show i' = i by omega]; simpa using h3
      · rintro ⟨h1, h2⟩
        exact ⟨⟨h1, fun i' hi' => h2 i' (by omega)⟩, by simpa using h2 i (by omega) hb⟩
    | false =>
      rw [if_neg (by simp), hQ]
      constructor
      · rintro ⟨h1, h2⟩
        refine ⟨h1, fun i' hi' hs' => ?_⟩
        rcases Nat.lt_or_ge i' i with h4 | h4
        · exact h2 i' h4 hs'
        · rw [show i' = i by omega, hb] at hs'; cases hs'
      · rintro ⟨h1, h2⟩
        exact ⟨h1, fun i' hi' => h2 i' (by omega)⟩
  · exact ⟨fun h => ⟨h, fun i hi => absurd hi (by omega)⟩, fun h => h.1⟩
theorem bm_bit (P : List Nat) (s j : Nat) : (bm P s).testBit j = true ↔ j < P.length ∧ s.testBit j = true ∧ P.getD j 0 &&& s = 0 := by
  have H := foldFrom_inv (fun o i => if s.testBit i then (if P.getD i 0 &&& s = 0 then o ||| 2 ^ i else o) else o) (fun m o => o.testBit j = true ↔ j < m ∧ s.testBit j = true ∧ P.getD j 0 &&& s = 0) P.length ?_ 0 0 (by omega) ?_
  · exact H
  · intro i o hi hQ
    cases hb : s.testBit i with
    | true =>
      by_cases h0 : P.getD i 0 &&& s = 0
      · simp only [h0, if_true]
        rw [Nat.testBit_or, Bool.or_eq_true, hQ, Nat.testBit_two_pow, decide_eq_true_eq]
        constructor
        · rintro (⟨h1, h2⟩ | rfl)
          · exact ⟨by omega, h2⟩
          · exact ⟨by omega, hb, h0⟩
        · rintro ⟨h1, h2⟩
          rcases Nat.lt_or_ge j i with h4 | h4
          · exact .inl ⟨h4, h2⟩
          · exact .inr (by omega)
      · simp only [h0, if_true, if_false]
        rw [hQ]
        constructor
        · rintro ⟨h1, h2⟩; exact ⟨by omega, h2⟩
        · rintro ⟨h1, h2, h3⟩
          rcases Nat.lt_or_ge j i with h4 | h4
          · exact ⟨h4, h2, h3⟩
          · rw [show j = i by omega] at h3; exact absurd h3 h0
    | false =>
      simp only [Bool.false_eq_true, if_false]
      rw [hQ]
      constructor
      · rintro ⟨h1, h2⟩; exact ⟨by omega, h2⟩
      · rintro ⟨h1, h2, h3⟩
        rcases Nat.lt_or_ge j i with h4 | h4
        · exact ⟨h4, h2, h3⟩
        · rw [show j = i by omega, hb] at h2; cases h2
  · simp
theorem idl_iff (P : List Nat) (s : Nat) : idl P s = true ↔ ∀ i, i < P.length → s.testBit i = true → ∀ j, (P.getD i 0).testBit j = true → s.testBit j = true := by
  unfold idl
  rw [allFrom_iff]
  constructor
  · intro h i hi hs
    have := h i (by omega) hi
    rw [hs] at this
    simp only [Bool.not_true, Bool.false_or, decide_eq_true_eq] at this
    exact sd_eq_zero.1 this
  · intro h i _ hi
    cases hs : s.testBit i with
    | false => simp
    | true => rw [decide_eq_true (sd_eq_zero.2 (h i hi hs))]; rfl
theorem idl_dn (P : List Nat) (s : Nat) : idl P s = decide (dn P s = s) := by
  rw [Bool.eq_iff_iff, idl_iff, decide_eq_true_eq]
  constructor
  · intro h
    apply Nat.eq_of_testBit_eq
    intro j
    rw [Bool.eq_iff_iff, dn_bit]
    constructor
    · rintro (h1 | ⟨i, h1, h2, h3⟩)
      · exact h1
      · exact h i h1 h2 j h3
    · exact .inl
  · intro h i hi hs j hj
    rw [← h, dn_bit]
    exact .inr ⟨i, hi, hs, hj⟩
theorem lt_of_bits {x n : Nat} (h : ∀ j, x.testBit j = true → j < n) : x < 2 ^ n := by
  apply Nat.lt_pow_two_of_testBit
  intro i hi
  cases hb : x.testBit i with
  | false => rfl
  | true => have := h i hb; omega
end Go.Proofs.Ytkdddlkhildliaa.M

/-! ### G -/
/- What the small functions on posets answer, and which posets are good: the reference's test and the program's test are one. -/
namespace Go.Proofs.Ytkdddlkhildliaa.B
open Go.RowKit Go.Proofs.Ytkdddlkhildliaa.M Go.Proofs.YtkdddlkhildliaaW.PrintWords Go.Proofs.YtkdddlkhildliaaW.PrintLast Go.Proofs.YtkdddlkhildliaaW.PrintMore

attribute [local irreducible] Go.bits shl shr sd
/-! ### small functions -/
theorem l1In_is (a b c : Int) : spec_l1In.f a b c = some (decide (b ≤ a ∧ a ≤ c)) := by
  unfold spec_l1In.f
  by_cases h : a ≥ b
  · rw [if_pos h]; simp [show b ≤ a from h]
  · rw [if_neg h]; simp [show ¬ b ≤ a from h]
theorem within_is (a b c : Int) : impl_within.f a b c = some (decide (b ≤ a ∧ a ≤ c)) := by
  unfold impl_within.f
  by_cases h : b ≤ a
  · rw [if_pos h]; simp [h]
  · rw [if_neg h]; simp [h]
theorem has_is {s e : Nat} (hs : s < 2 ^ 63) (he : e ≤ 64) : impl_has.f (s : Int) (e : Int) = some (s.testBit e) := by
  unfold impl_has.f
  rw [if_pos (by omega)]
  congr 1
  have := bit_and1 hs he
  cases hb : s.testBit e
  · rw [hb] at this; simpa using this
  · rw [hb] at this; simpa using this
theorem items_l0 {s : Nat} (hs : s < 2 ^ 63) : ∀ (e : Nat) (_ : Unit), e ≤ 10 → True →
    Ev (fun k => impl_items.l0 k (s : Int) ((itemsUpto s e).map (fun x : Nat => (x : Int))) (e : Int)) ((items s).map (fun x : Nat => (x : Int))) := by
  have H : ∀ (e : Nat) (st : List Int), e ≤ 10 → st = (itemsUpto s e).map (fun x : Nat => (x : Int)) → Ev (fun k => impl_items.l0 k (s : Int) st (e : Int)) ((items s).map (fun x : Nat => (x : Int))) := by
    refine ev_down (fun k (st : List Int) e => impl_items.l0 k (s : Int) st e) (fun _ _ => (items s).map (fun x : Nat => (x : Int))) 10 (fun e st => st = (itemsUpto s e).map (fun x : Nat => (x : Int))) ?_ ?_
    · rintro st rfl
      exact ev_step (Ev.now _) (fun k => by simp only [impl_items.l0]; rw [if_neg (by omega)]; rfl)
    · rintro e st he rfl ih
      have hl : (itemsUpto s e).length ≤ e := by unfold itemsUpto; exact Nat.le_trans (List.length_filter_le _ _) (by simp)
      have hw : wrap64 ((e : Int) + 1) = (e : Int) + 1 := wrap64_id (by omega) (by omega)
      have hn : itemsUpto s (e + 1) = itemsUpto s e ++ (if s.testBit e then [e] else []) := by
        unfold itemsUpto
        rw [List.range_succ, List.filter_append]
        cases h : s.testBit e <;> simp [h]
      cases hb : s.testBit e with
      | true =>
        refine ev_step (ih _ rfl) (fun k => ?_)
        simp only [impl_items.l0]
        rw [if_pos (by omega), has_is hs (by omega), hb, Option.bind_some, if_pos rfl, if_pos (by rw [List.length_map]; omega), hw, hn, hb, if_pos rfl, List.map_append]
        rfl
      | false =>
        refine ev_step (ih _ rfl) (fun k => ?_)
        simp only [impl_items.l0]
        rw [if_pos (by omega), has_is hs (by omega), hb, Option.bind_some, if_neg (by decide), hw, hn, hb, if_neg (by decide), List.append_nil]
  exact fun e _ he _ => H e _ he rfl
theorem items_ev {s : Nat} (hs : s < 2 ^ 63) : Ev (fun k => impl_items.f k (s : Int)) ((items s).map (fun x : Nat => (x : Int))) := by
  unfold impl_items.f
  have := items_l0 hs 0 () (by omega) trivial
  simpa [itemsUpto] using this

/-! ### good posets -/
def cellB (l : List Int) (i j : Nat) : Bool := !((l.getD i 0).toNat.testBit j) || decide (sd (l.getD j 0).toNat (l.getD i 0).toNat = 0)
def rowB (l : List Int) (i : Nat) : Bool := decide (0 ≤ l.getD i 0 ∧ l.getD i 0 ≤ ((2 ^ i - 1 : Nat) : Int)) && allFrom (cellB l i) 0 i
def goodB (l : List Int) : Bool := decide (1 ≤ (l.length : Int) ∧ (l.length : Int) ≤ 10) && allFrom (rowB l) 0 l.length
theorem rowB_bound {l : List Int} {i : Nat} (h : rowB l i = true) : ∃ x : Nat, l.getD i 0 = (x : Int) ∧ x < 2 ^ i := by
  unfold rowB at h
  rw [Bool.and_eq_true, decide_eq_true_eq] at h
  have := Nat.one_le_two_pow (n := i)
  exact ⟨(l.getD i 0).toNat, by omega, by omega⟩
theorem p63 {x i : Nat} (h : x < 2 ^ i) (hi : i ≤ 62) : x < 2 ^ 63 := Nat.lt_of_lt_of_le h (two_pow_le (by omega))
theorem sd_zero_nat {a b : Nat} : ((sd a b : Nat) : Int) = 0 ↔ sd a b = 0 := by omega

theorem poGood_l1 (l : List Int) (i : Nat) (hn : l.length ≤ 10) (hi : i < l.length) (hp : ∀ j, j < i → rowB l j = true) {x : Nat} (hx : l.getD i 0 = (x : Int)) (hxi : x < 2 ^ i) (r : Bool)
    (hnext : (∀ j, j < i → cellB l i j = true) → Ev (fun k => spec_poGood.l0 k l (l.length : Int) ((i : Int) + 1) l) r) :
    ∀ (j : Nat) (_ : Unit), j ≤ i → (∀ j', j' < j → cellB l i j' = true) → Ev (fun k => spec_poGood.l1 k (i : Int) (x : Int) (j : Int) l (l.length : Int) (i : Int) l) (allFrom (cellB l i) j i && r) := by
  refine ev_down (fun k (_ : Unit) j => spec_poGood.l1 k (i : Int) (x : Int) j l (l.length : Int) (i : Int) l) (fun j _ => allFrom (cellB l i) j i && r) i (fun j _ => ∀ j', j' < j → cellB l i j' = true) ?_ ?_
  · intro _ hall
    rw [allFrom_end, Bool.true_and]
    exact ev_step (hnext hall) (fun k => by simp only [spec_poGood.l1]; rw [if_neg (by omega), wrap64_id (by omega) (by omega)])
  · intro j _ hj hall ih
    have hw : wrap64 ((j : Int) + 1) = (j : Int) + 1 := wrap64_id (by omega) (by omega)
    obtain ⟨y, hy, hyj⟩ := rowB_bound (hp j hj)
    have hc : cellB l i j = (!(x.testBit j) || decide (sd y x = 0)) := by unfold cellB; rw [hx, hy, Int.toNat_natCast, Int.toNat_natCast]
    have hb := bit_tmod (s := x) (i := j) (by omega)
    have c1 : (j : Int) < (i : Int) := by omega
    have c2 : 0 ≤ (j : Int) := by omega
    have c3 : (j : Int) < (l.length : Int) := by omega
    have ih' : cellB l i j = true → Ev (fun k => spec_poGood.l1 k (i : Int) (x : Int) ((j : Int) + 1) l (l.length : Int) (i : Int) l) (allFrom (cellB l i) (j + 1) i && r) := fun h =>
      ih () (fun j' hj' => by rcases Nat.lt_or_ge j' j with h1 | h1; exact hall j' h1; rw [show j' = j by omega]; exact h)
    have hz := andNot_nat (p63 hyj (by omega)) (p63 hxi (by omega))
    rw [allFrom_step _ hj]
    cases hbit : x.testBit j with
    | true =>
      have hb1 := hb.2 hbit
      by_cases h0 : sd y x = 0
      · have hcj : cellB l i j = true := by rw [hc, h0]; simp
        rw [hcj, Bool.true_and]
        exact ev_step (ih' hcj) (fun k => by simp only [spec_poGood.l1]; rw [if_pos c1, if_pos c2, if_pos hb1, if_pos c3, rd_nat, hy, hz, if_pos (sd_zero_nat.2 h0), hw])
      · have hcj : cellB l i j = false := by rw [hc, hbit]; simp [h0]
        rw [hcj, Bool.false_and, Bool.false_and]
        exact ev_step (Ev.now _) (fun k => by simp only [spec_poGood.l1]; rw [if_pos c1, if_pos c2, if_pos hb1, if_pos c3, rd_nat, hy, hz, if_neg (fun h => h0 (sd_zero_nat.1 h))])
    | false =>
      have hb1 : ¬ (Int.tmod (shr .i64 (x : Int) (j : Int)) 2 = 1) := fun h => by rw [hb.1 h] at hbit; cases hbit
      have hcj : cellB l i j = true := by rw [hc, hbit]; simp
      rw [hcj, Bool.true_and]
      exact ev_step (ih' hcj) (fun k => by simp only [spec_poGood.l1]; rw [if_pos c1, if_pos c2, if_neg hb1, hw])
theorem poGood_l0 (l : List Int) (hn : l.length ≤ 10) : ∀ (i : Nat) (_ : Unit), i ≤ l.length → (∀ j, j < i → rowB l j = true) → Ev (fun k => spec_poGood.l0 k l (l.length : Int) (i : Int) l) (allFrom (rowB l) i l.length) := by
  refine ev_down (fun k (_ : Unit) i => spec_poGood.l0 k l (l.length : Int) i l) (fun i _ => allFrom (rowB l) i l.length) l.length (fun i _ => ∀ j, j < i → rowB l j = true) ?_ ?_
  · intro _ _
    rw [allFrom_end]
    exact ev_step (Ev.now _) (fun k => by simp only [spec_poGood.l0]; rw [if_neg (by omega)])
  · intro i _ hi hp ih
    have hm := mask_sub (i := i) (by omega)
    have c1 : (i : Int) < (l.length : Int) := by omega
    have c2 : 0 ≤ (i : Int) := by omega
    rw [allFrom_step _ hi]
    by_cases hb : 0 ≤ l.getD i 0 ∧ l.getD i 0 ≤ ((2 ^ i - 1 : Nat) : Int)
    · have h1 := Nat.one_le_two_pow (n := i)
      obtain ⟨x, hx⟩ : ∃ x : Nat, l.getD i 0 = (x : Int) := ⟨(l.getD i 0).toNat, by omega⟩
      have hxi : x < 2 ^ i := by omega
      have hr : rowB l i = allFrom (cellB l i) 0 i := by unfold rowB; rw [decide_eq_true hb, Bool.true_and]
      rw [hr]
      refine ev_step (poGood_l1 l i hn hi hp hx hxi (allFrom (rowB l) (i + 1) l.length) (fun hall => ih () (fun j hj => ?_)) 0 () (by omega) (fun _ h => absurd h (by omega))) (fun k => ?_)
      · rcases Nat.lt_or_ge j i with h | h
        · exact hp j h
        · rw [show j = i by omega, hr]
          exact (allFrom_iff _ _ _).2 (fun j' _ h2 => hall j' h2)
      · simp only [spec_poGood.l0]
        rw [if_pos c1, if_pos c2, if_pos c1, rd_nat, hm, l1In_is, decide_eq_true hb, hx, Option.bind_some, if_pos rfl]
        rfl
    · have hr : rowB l i = false := by unfold rowB; rw [decide_eq_false hb, Bool.false_and]
      rw [hr, Bool.false_and]
      exact ev_step (Ev.now _) (fun k => by simp only [spec_poGood.l0]; rw [if_pos c1, if_pos c2, if_pos c1, rd_nat, hm, l1In_is, decide_eq_false hb, Option.bind_some, if_neg (by decide)])
theorem poGood_ev (l : List Int) : Ev (fun k => spec_poGood.f k l) (goodB l) := by
  unfold spec_poGood.f goodB
  rw [l1In_is]
  by_cases h : 1 ≤ (l.length : Int) ∧ (l.length : Int) ≤ 10
  · rw [decide_eq_true h, Bool.true_and]
    exact ev_as (poGood_l0 l (by omega) 0 () (by omega) (fun _ h => absurd h (by omega))) (fun k => by rw [Option.bind_some, if_pos rfl]; rfl)
  · rw [decide_eq_false h, Bool.false_and]
    exact ev_as (Ev.now _) (fun k => by rw [Option.bind_some, if_neg (by decide)])
abbrev cast (P : List Nat) : List Int := P.map (fun x : Nat => (x : Int))
theorem cast_length (P : List Nat) : ((cast P).length : Int) = (P.length : Int) := by simp
/-- What the program asks of the elements below one. -/
def subB (l : List Int) (x j : Nat) : Bool := decide (sd (l.getD j 0).toNat x = 0)
theorem IsPoset_l1 (l : List Int) (i : Nat) (hn : l.length ≤ 10) (hi : i < l.length) (hp : ∀ j, j < i → rowB l j = true) {x : Nat} (hxi : x < 2 ^ i) (r : Bool)
    (hnext : (∀ j, j ∈ items x → subB l x j = true) → Ev (fun k => impl_IsPoset.l0 k l (l.length : Int) ((i : Int) + 1) l) r) :
    ∀ (e : Nat) (_ : Unit), e ≤ (items x).length → (∀ j, j ∈ (items x).take e → subB l x j = true) →
      Ev (fun k => impl_IsPoset.l1 k (x : Int) l (l.length : Int) (i : Int) (cast (items x)) ((cast (items x)).length : Int) (e : Int) l) (((items x).drop e).all (subB l x) && r) := by
  have hlen : (items x).length ≤ 10 := by unfold items; exact Nat.le_trans (List.length_filter_le _ _) (by simp)
  refine ev_down (fun k (_ : Unit) e => impl_IsPoset.l1 k (x : Int) l (l.length : Int) (i : Int) (cast (items x)) ((cast (items x)).length : Int) e l) (fun e _ => ((items x).drop e).all (subB l x) && r) (items x).length (fun e _ => ∀ j, j ∈ (items x).take e → subB l x j = true) ?_ ?_
  · intro _ hall
    rw [List.drop_length, List.all_nil, Bool.true_and]
    exact ev_step (hnext (fun j hj => hall j (by rw [List.take_length]; exact hj))) (fun k => by simp only [impl_IsPoset.l1]; rw [if_neg (by rw [cast_length]; omega), wrap64_id (by omega) (by omega)])
  · intro e _ he hall ih
    have hw : wrap64 ((e : Int) + 1) = (e : Int) + 1 := wrap64_id (by omega) (by omega)
    obtain ⟨j, hj⟩ : ∃ j, (items x).getD e 0 = j := ⟨_, rfl⟩
    have hmem : j ∈ items x := by rw [← hj, List.getD_eq_getElem?_getD, List.getElem?_eq_getElem he, Option.getD_some]; exact List.getElem_mem he
    have hji : j < i := bit_lt hxi (mem_items.1 hmem).2
    obtain ⟨y, hy, hyj⟩ := rowB_bound (hp j hji)
    have c1 : (e : Int) < ((cast (items x)).length : Int) := by rw [cast_length]; omega
    have c2 : 0 ≤ (e : Int) := by omega
    have c3 : (e : Int) < ((cast (items x)).length : Int) := by rw [cast_length]; omega
    have c4 : 0 ≤ (j : Int) := by omega
    have c5 : (j : Int) < (l.length : Int) := by omega
    have hs : subB l x j = decide (sd y x = 0) := by unfold subB; rw [hy, Int.toNat_natCast]
    have hz := andNot_nat (p63 hyj (by omega)) (p63 hxi (by omega))
    rw [drop_step (items x) 0 he, hj, List.all_cons]
    by_cases h0 : sd y x = 0
    · have hsj : subB l x j = true := by rw [hs, h0]; simp
      rw [hsj, Bool.true_and]
      refine ev_step (ih () (fun j' hj' => ?_)) (fun k => ?_)
      · rw [List.take_add_one, List.mem_append] at hj'
        rcases hj' with h1 | h1
        · exact hall j' h1
        · rw [List.getElem?_eq_getElem he] at h1
          have : j' = j := by rw [← hj, List.getD_eq_getElem?_getD, List.getElem?_eq_getElem he]; simpa using h1
          rw [this]; exact hsj
      · simp only [impl_IsPoset.l1]
        rw [if_pos c1, if_pos c2, if_pos c3, rd_cast, hj, if_pos c4, if_pos c5, rd_nat, hy, hz, if_pos (sd_zero_nat.2 h0), hw]
    · have hsj : subB l x j = false := by rw [hs]; simp [h0]
      rw [hsj, Bool.false_and, Bool.false_and]
      refine ev_step (Ev.now _) (fun k => ?_)
      simp only [impl_IsPoset.l1]
      rw [if_pos c1, if_pos c2, if_pos c3, rd_cast, hj, if_pos c4, if_pos c5, rd_nat, hy, hz, if_neg (fun h => h0 (sd_zero_nat.1 h))]
theorem cell_sub (l : List Int) {i x : Nat} (hi : i ≤ 10) (hx : l.getD i 0 = (x : Int)) (hxi : x < 2 ^ i) : (items x).all (subB l x) = allFrom (cellB l i) 0 i := by
  rw [all_items _ hxi hi]
  congr 1
  funext j
  unfold cellB subB
  rw [hx, Int.toNat_natCast]
theorem IsPoset_l0 (l : List Int) (hn : l.length ≤ 10) : ∀ (i : Nat) (_ : Unit), i ≤ l.length → (∀ j, j < i → rowB l j = true) → Ev (fun k => impl_IsPoset.l0 k l (l.length : Int) (i : Int) l) (allFrom (rowB l) i l.length) := by
  refine ev_down (fun k (_ : Unit) i => impl_IsPoset.l0 k l (l.length : Int) i l) (fun i _ => allFrom (rowB l) i l.length) l.length (fun i _ => ∀ j, j < i → rowB l j = true) ?_ ?_
  · intro _ _
    rw [allFrom_end]
    exact ev_step (Ev.now _) (fun k => by simp only [impl_IsPoset.l0]; rw [if_neg (by omega)])
  · intro i _ hi hp ih
    have hm := mask_sub (i := i) (by omega)
    have c1 : (i : Int) < (l.length : Int) := by omega
    have c2 : 0 ≤ (i : Int) := by omega
    rw [allFrom_step _ hi]
    by_cases hb : 0 ≤ l.getD i 0 ∧ l.getD i 0 ≤ ((2 ^ i - 1 : Nat) : Int)
    · have h1 := Nat.one_le_two_pow (n := i)
      obtain ⟨x, hx⟩ : ∃ x : Nat, l.getD i 0 = (x : Int) := ⟨(l.getD i 0).toNat, by omega⟩
      have hxi : x < 2 ^ i := by omega
      have hr : rowB l i = allFrom (cellB l i) 0 i := by unfold rowB; rw [decide_eq_true hb, Bool.true_and]
      have hsub := cell_sub l (by omega) hx hxi
      have hgo := IsPoset_l1 l i hn hi hp hxi (allFrom (rowB l) (i + 1) l.length) (fun hall => ih () (fun j hj => by
        rcases Nat.lt_or_ge j i with h | h
        · exact hp j h
        · rw [show j = i by omega, hr, ← hsub]
          exact List.all_eq_true.2 hall)) 0 () (by omega) (fun _ h => absurd h (by simp))
      rw [List.drop_zero, hsub] at hgo
      rw [hr]
      refine ev_stepb (F := fun k t => impl_IsPoset.l1 k (x : Int) l (l.length : Int) (i : Int) t (t.length : Int) 0 l) (items_ev (p63 hxi (by omega))) hgo (fun k => ?_)
      simp only [impl_IsPoset.l0]
      rw [if_pos c1, if_pos c2, if_pos c1, rd_nat, hm, within_is, decide_eq_true hb, hx, Option.bind_some, if_pos rfl]
    · have hr : rowB l i = false := by unfold rowB; rw [decide_eq_false hb, Bool.false_and]
      rw [hr, Bool.false_and]
      exact ev_step (Ev.now _) (fun k => by simp only [impl_IsPoset.l0]; rw [if_pos c1, if_pos c2, if_pos c1, rd_nat, hm, within_is, decide_eq_false hb, Option.bind_some, if_neg (by decide)])
theorem IsPoset_ev (l : List Int) : Ev (fun k => impl_IsPoset.f k l) (goodB l) := by
  unfold impl_IsPoset.f impl_Poset_n.f goodB
  by_cases h : 1 ≤ (l.length : Int) ∧ (l.length : Int) ≤ 10
  · rw [decide_eq_true h, Bool.true_and]
    exact ev_as (IsPoset_l0 l (by omega) 0 () (by omega) (fun _ h => absurd h (by omega))) (fun k => by rw [Option.bind_some, within_is, decide_eq_true h, Option.bind_some, if_pos rfl]; rfl)
  · rw [decide_eq_false h, Bool.false_and]
    exact ev_as (Ev.now _) (fun k => by rw [Option.bind_some, within_is, decide_eq_false h, Option.bind_some, if_neg (by decide)])

/-! ### a good poset as natural numbers -/
structure Good (l : List Int) (P : List Nat) : Prop where
  eq : l = cast P
  n1 : 1 ≤ P.length
  n10 : P.length ≤ 10
  lt : ∀ i, i < P.length → P.getD i 0 < 2 ^ i
  tr : ∀ i, i < P.length → ∀ j, (P.getD i 0).testBit j = true → sd (P.getD j 0) (P.getD i 0) = 0
theorem good_of {l : List Int} (h : goodB l = true) : ∃ P, Good l P := by
  unfold goodB at h
  rw [Bool.and_eq_true, decide_eq_true_eq, allFrom_iff] at h
  obtain ⟨hl, hr⟩ := h
  refine ⟨l.map Int.toNat, ?_, by simp; omega, by simp; omega, ?_, ?_⟩
  · unfold cast
    rw [List.map_map]
    apply List.ext_getElem
    · simp
    · intro i h1 h2
      obtain ⟨x, hx, _⟩ := rowB_bound (hr i (by omega) h1)
      rw [List.getD_eq_getElem?_getD, List.getElem?_eq_getElem h1, Option.getD_some] at hx
      simp [hx]
  · intro i hi
    rw [List.length_map] at hi
    obtain ⟨x, hx, hxi⟩ := rowB_bound (hr i (by omega) hi)
    have : (l.map Int.toNat).getD i 0 = x := by
      rw [List.getD_eq_getElem?_getD, List.getElem?_map]
      rw [List.getD_eq_getElem?_getD] at hx
      rw [List.getElem?_eq_getElem hi] at hx ⊢
      simp at hx ⊢
      omega
    rw [this]; exact hxi
  · intro i hi j hj
    rw [List.length_map] at hi
    have hD : ∀ e, (l.map Int.toNat).getD e 0 = (l.getD e 0).toNat := fun e => by
      simp only [List.getD_eq_getElem?_getD, List.getElem?_map]
      cases l[e]? <;> simp
    rw [hD] at hj ⊢
    rw [hD]
    have h2 := hr i (by omega) hi
    obtain ⟨x, hx, hxi⟩ := rowB_bound h2
    unfold rowB at h2
    rw [Bool.and_eq_true, allFrom_iff] at h2
    have hji : j < i := by rw [hx, Int.toNat_natCast] at hj; exact bit_lt hxi hj
    have h3 := h2.2 j (by omega) hji
    unfold cellB at h3
    rw [hj] at h3
    simpa using h3
theorem Good.length {l : List Int} {P : List Nat} (h : Good l P) : (l.length : Int) = (P.length : Int) := by rw [h.eq]; simp
theorem Good.lt63 {l : List Int} {P : List Nat} (h : Good l P) (i : Nat) : P.getD i 0 < 2 ^ 63 := by
  rcases Nat.lt_or_ge i P.length with h1 | h1
  · exact p63 (h.lt i h1) (by have := h.n10; omega)
  · rw [List.getD_eq_getElem?_getD, List.getElem?_eq_none h1]; decide
theorem Good.ltn {l : List Int} {P : List Nat} (h : Good l P) (i : Nat) : P.getD i 0 < 2 ^ P.length := by
  rcases Nat.lt_or_ge i P.length with h1 | h1
  · exact Nat.lt_of_lt_of_le (h.lt i h1) (two_pow_le (by omega))
  · rw [List.getD_eq_getElem?_getD, List.getElem?_eq_none h1]; exact Nat.two_pow_pos _
end Go.Proofs.Ytkdddlkhildliaa.B

/-! ### S0 -/
/- Is an element in a set; the set of all. -/
namespace Go.Proofs.Ytkdddlkhildliaa.B
open Go.RowKit Go.Proofs.Ytkdddlkhildliaa.M Go.Proofs.YtkdddlkhildliaaW.PrintWords Go.Proofs.YtkdddlkhildliaaW.PrintLast Go.Proofs.YtkdddlkhildliaaW.PrintMore
attribute [local irreducible] Go.bits shl shr sd
theorem poIn_is {s e : Nat} (he : e ≤ 64) : spec_poIn.f (s : Int) (e : Int) = some (s.testBit e) := by
  unfold spec_poIn.f
  rw [if_pos (by omega)]
  congr 1
  have := bit_tmod (s := s) he
  cases hb : s.testBit e
  · rw [hb] at this; simpa using this
  · rw [hb] at this; simpa using this
theorem all_is (l : List Int) (hn : l.length ≤ 62) : impl_Poset_all.f l = some ((2 ^ l.length - 1 : Nat) : Int) := by
  unfold impl_Poset_all.f impl_Poset_n.f
  rw [Option.bind_some, if_pos (by omega), mask_sub (by omega)]
end Go.Proofs.Ytkdddlkhildliaa.B

/-! ### Sfile -/
/- How many elements of each file: both sides' sums. -/
namespace Go.Proofs.Ytkdddlkhildliaa.B
open Go.RowKit Go.Proofs.Ytkdddlkhildliaa.M Go.Proofs.YtkdddlkhildliaaW.PrintWords Go.Proofs.YtkdddlkhildliaaW.PrintLast Go.Proofs.YtkdddlkhildliaaW.PrintMore
attribute [local irreducible] Go.bits shl shr sd
/-- The file of an element. -/
def fJ (m n e : Nat) : Int := wrap64 ((wrap64 ((wrap64 ((Int.tmod (e : Int) (n : Int)) - (wrap64 (Int.tdiv (e : Int) (n : Int))))) + (m : Int))) - 1)
def fput (m n : Nat) (o : List Int) (e : Nat) : List Int := o.set (fJ m n e).toNat (wrap64 ((rd o (fJ m n e)) + 1))
theorem fput_length (m n : Nat) (o : List Int) (e : Nat) : (fput m n o e).length = o.length := by unfold fput; rw [List.length_set]
def fT (m n t : Nat) (o : List Int) : List Int := foldFrom (fun st e => if t.testBit e then fput m n st e else st) 0 (m * n) o
theorem fJ_range {m n e : Nat} (h3 : 1 ≤ n) (h2 : m ≤ 10) (h4 : n ≤ 10) (he : e < m * n) : 0 ≤ fJ m n e ∧ fJ m n e < ((m + n - 1 : Nat) : Int) := by
  have hd : e / n < m := (Nat.div_lt_iff_lt_mul (by omega)).2 he
  have hm : e % n < n := Nat.mod_lt _ (by omega)
  have e1 : Int.tmod (e : Int) (n : Int) = ((e % n : Nat) : Int) := by rw [Int.tmod_eq_emod_of_nonneg (by omega)]; rfl
  have e2 : Int.tdiv (e : Int) (n : Int) = ((e / n : Nat) : Int) := by rw [Int.tdiv_eq_ediv_of_nonneg (by omega)]; rfl
  unfold fJ
  obtain ⟨q, hq⟩ : ∃ q, e / n = q := ⟨_, rfl⟩
  obtain ⟨r, hr⟩ : ∃ r, e % n = r := ⟨_, rfl⟩
  rw [hq] at hd e2
  rw [hr] at hm e1
  rw [e1, e2]
  clear e1 e2 hq hr he
  rw [wrap64_id (x := (q : Int)) (by omega) (by omega), wrap64_id (x := (r : Int) - (q : Int)) (by omega) (by omega), wrap64_id (x := (r : Int) - (q : Int) + (m : Int)) (by omega) (by omega), wrap64_id (by omega) (by omega)]
  omega
section
variable {m n : Nat} (h1 : 1 ≤ m) (h2 : m ≤ 10) (h3 : 1 ≤ n) (h4 : n ≤ 10) (h5 : m * n ≤ 10)
include h1 h2 h3 h4 h5
set_option linter.unusedSectionVars false
theorem fT_length (t : Nat) (o : List Int) : (fT m n t o).length = o.length := by
  unfold fT
  refine foldFrom_inv _ (fun _ st => st.length = o.length) (m * n) (fun i st _ h => ?_) 0 o (Nat.zero_le _) rfl
  split
  · rw [fput_length]; exact h
  · exact h
theorem specF_l1 (L : List Int) (i : Nat) (t : Nat) (fin : List Int → List Int × Bool) (hi : i ≤ 1024)
    (hnext : ∀ o : List Int, o.length = m + n - 1 → Ev (fun k => spec_FileSums.l0 k (m : Int) (n : Int) o L (L.length : Int) ((i : Int) + 1)) (fin o)) :
    ∀ (e : Nat) (o : List Int), e ≤ m * n → o.length = m + n - 1 → Ev (fun k => spec_FileSums.l1 k (m : Int) (n : Int) o (t : Int) (e : Int) L (L.length : Int) (i : Int)) (fin (foldFrom (fun st e => if t.testBit e then fput m n st e else st) e (m * n) o)) := by
  have hmul : wrap64 ((m : Int) * (n : Int)) = ((m * n : Nat) : Int) := by rw [← Int.natCast_mul, wrap64_id (by omega) (by omega)]
  have hn0 : ¬ (n : Int) = 0 := by omega
  refine ev_down (fun k (o : List Int) e => spec_FileSums.l1 k (m : Int) (n : Int) o (t : Int) e L (L.length : Int) (i : Int)) (fun e o => fin (foldFrom (fun st e => if t.testBit e then fput m n st e else st) e (m * n) o)) (m * n) (fun _ o => o.length = m + n - 1) ?_ ?_
  · intro o ho
    rw [foldFrom_end]
    have hw1 : wrap64 ((i : Int) + 1) = (i : Int) + 1 := wrap64_id (by omega) (by omega)
    exact ev_step (hnext o ho) (fun k => by simp only [spec_FileSums.l1]; rw [hmul, if_neg (by omega), hw1])
  · intro e o he ho ih
    have c1 : (e : Int) < ((m * n : Nat) : Int) := by omega
    have hw1 : wrap64 ((e : Int) + 1) = (e : Int) + 1 := wrap64_id (by omega) (by omega)
    obtain ⟨j1, j2⟩ := fJ_range h3 h2 h4 he
    have hp := poIn_is (s := t) (e := e) (by omega)
    rw [foldFrom_step _ he]
    cases hb : t.testBit e with
    | false =>
      rw [hb] at hp
      rw [if_neg (by decide)]
      exact ev_step (ih o ho) (fun k => by simp only [spec_FileSums.l1]; rw [hmul, if_pos c1, hp, Option.bind_some, if_neg (by decide), hw1])
    | true =>
      rw [hb] at hp
      rw [if_pos rfl]
      have j3 : fJ m n e < (o.length : Int) := by rw [ho]; exact j2
      have h0 := ih (fput m n o e) (by rw [fput_length]; exact ho)
      exact ev_step h0 (fun k => by
        simp only [spec_FileSums.l1]
        rw [hmul, if_pos c1, hp, Option.bind_some, if_pos rfl, if_neg hn0]
        show (if 0 ≤ fJ m n e then (if fJ m n e < (o.length : Int) then spec_FileSums.l1 k (m : Int) (n : Int) (fput m n o e) (t : Int) (wrap64 ((e : Int) + 1)) L (L.length : Int) (i : Int) else none) else none) = _
        rw [if_pos j1, if_pos j3, hw1])
theorem implF_l1 (L : List Int) (i : Nat) (its : List Nat) (hits : ∀ e ∈ its, e < m * n) (hil : its.length ≤ 10) (fin : List Int → List Int × Bool) (hi : i ≤ 1024)
    (hnext : ∀ o : List Int, o.length = m + n - 1 → Ev (fun k => impl_FileSums.l0 k (m : Int) (n : Int) o L (L.length : Int) ((i : Int) + 1)) (fin o)) :
    ∀ (j : Nat) (o : List Int), j ≤ its.length → o.length = m + n - 1 → Ev (fun k => impl_FileSums.l1 k (m : Int) (n : Int) o L (L.length : Int) (i : Int) (cast its) ((cast its).length : Int) (j : Int)) (fin ((its.drop j).foldl (fput m n) o)) := by
  have hn0 : ¬ (n : Int) = 0 := by omega
  refine ev_down (fun k (o : List Int) j => impl_FileSums.l1 k (m : Int) (n : Int) o L (L.length : Int) (i : Int) (cast its) ((cast its).length : Int) j) (fun j o => fin ((its.drop j).foldl (fput m n) o)) its.length (fun _ o => o.length = m + n - 1) ?_ ?_
  · intro o ho
    rw [List.drop_length]
    have hw1 : wrap64 ((i : Int) + 1) = (i : Int) + 1 := wrap64_id (by omega) (by omega)
    exact ev_step (hnext o ho) (fun k => by simp only [impl_FileSums.l1]; rw [if_neg (by rw [cast_length]; omega), hw1])
  · intro j o hj ho ih
    obtain ⟨e, he⟩ : ∃ e, its.getD j 0 = e := ⟨_, rfl⟩
    have hlt : e < m * n := hits e (by rw [← he]; exact getD_memN hj)
    have c1 : (j : Int) < ((cast its).length : Int) := by rw [cast_length]; omega
    have c2 : 0 ≤ (j : Int) := by omega
    have hr : rd (cast its) (j : Int) = (e : Int) := by rw [← he]; exact rd_cast _ _
    have hw1 : wrap64 ((j : Int) + 1) = (j : Int) + 1 := wrap64_id (by omega) (by omega)
    obtain ⟨j1, j2⟩ := fJ_range h3 h2 h4 hlt
    have j3 : fJ m n e < (o.length : Int) := by rw [ho]; exact j2
    rw [drop_step its 0 hj, he, List.foldl_cons]
    have h0 := ih (fput m n o e) (by rw [fput_length]; exact ho)
    exact ev_step h0 (fun k => by
      simp only [impl_FileSums.l1]
      rw [if_pos c1, if_pos c2, if_pos c1, if_neg hn0, hr]
      show (if 0 ≤ fJ m n e then (if fJ m n e < (o.length : Int) then impl_FileSums.l1 k (m : Int) (n : Int) (fput m n o e) L (L.length : Int) (i : Int) (cast its) ((cast its).length : Int) (wrap64 ((j : Int) + 1)) else none) else none) = _
      rw [if_pos j1, if_pos j3, hw1])
/-- All sums over a list of ideals. -/
def fAll (m n : Nat) (L : List Nat) (o : List Int) : List Int := L.foldl (fun o t => fT m n t o) o
theorem fAll_length : ∀ (L : List Nat) (o : List Int), (fAll m n L o).length = o.length
  | [], _ => rfl
  | t :: L, o => by
    unfold fAll
    rw [List.foldl_cons]
    have := fAll_length L (fT m n t o)
    unfold fAll at this
    rw [this, fT_length h1 h2 h3 h4 h5]
theorem specF_l0 (L : List Nat) (hL : L.length ≤ 1024) : ∀ (i : Nat) (o : List Int), i ≤ L.length → o.length = m + n - 1 → Ev (fun k => spec_FileSums.l0 k (m : Int) (n : Int) o (cast L) ((cast L).length : Int) (i : Int)) (fAll m n (L.drop i) o, true) := by
  refine ev_down (fun k (o : List Int) i => spec_FileSums.l0 k (m : Int) (n : Int) o (cast L) ((cast L).length : Int) i) (fun i o => (fAll m n (L.drop i) o, true)) L.length (fun _ o => o.length = m + n - 1) ?_ ?_
  · intro o _
    rw [List.drop_length]
    exact ev_step (Ev.now _) (fun k => by simp only [spec_FileSums.l0]; rw [if_neg (by rw [cast_length]; omega)]; rfl)
  · intro i o hi ho ih
    obtain ⟨t, he⟩ : ∃ t, L.getD i 0 = t := ⟨_, rfl⟩
    have c1 : (i : Int) < ((cast L).length : Int) := by rw [cast_length]; omega
    have c2 : 0 ≤ (i : Int) := by omega
    have hr : rd (cast L) (i : Int) = (t : Int) := by rw [← he]; exact rd_cast _ _
    rw [drop_step L 0 hi, he]
    have h0 := specF_l1 h1 h2 h3 h4 h5 (cast L) i t (fun o => (fAll m n (L.drop (i + 1)) o, true)) (by omega) (fun o ho => ih o ho) 0 o (by omega) ho
    exact ev_step h0 (fun k => by simp only [spec_FileSums.l0]; rw [if_pos c1, if_pos c2, if_pos c1, hr]; rfl)
theorem implF_l0 (L : List Nat) (hL : L.length ≤ 1024) (hLs : ∀ t ∈ L, t < 2 ^ (m * n)) : ∀ (i : Nat) (o : List Int), i ≤ L.length → o.length = m + n - 1 → Ev (fun k => impl_FileSums.l0 k (m : Int) (n : Int) o (cast L) ((cast L).length : Int) (i : Int)) (fAll m n (L.drop i) o, true) := by
  refine ev_down (fun k (o : List Int) i => impl_FileSums.l0 k (m : Int) (n : Int) o (cast L) ((cast L).length : Int) i) (fun i o => (fAll m n (L.drop i) o, true)) L.length (fun _ o => o.length = m + n - 1) ?_ ?_
  · intro o _
    rw [List.drop_length]
    exact ev_step (Ev.now _) (fun k => by simp only [impl_FileSums.l0]; rw [if_neg (by rw [cast_length]; omega)]; rfl)
  · intro i o hi ho ih
    obtain ⟨t, he⟩ : ∃ t, L.getD i 0 = t := ⟨_, rfl⟩
    have ht : t < 2 ^ (m * n) := hLs t (by rw [← he]; exact getD_memN hi)
    have c1 : (i : Int) < ((cast L).length : Int) := by rw [cast_length]; omega
    have c2 : 0 ≤ (i : Int) := by omega
    have hr : rd (cast L) (i : Int) = (t : Int) := by rw [← he]; exact rd_cast _ _
    have hil : (items t).length ≤ 10 := by unfold items; exact Nat.le_trans (List.length_filter_le _ _) (by simp)
    rw [drop_step L 0 hi, he]
    have h0 := implF_l1 h1 h2 h3 h4 h5 (cast L) i (items t) (fun e he => bit_lt ht (mem_items.1 he).2) hil (fun o => (fAll m n (L.drop (i + 1)) o, true)) (by omega) (fun o ho => ih o ho) 0 o (by omega) ho
    rw [List.drop_zero, fold_items (fput m n) ht h5] at h0
    refine ev_stepb (items_ev (p63 ht (by omega))) ?_ (fun k => by simp only [impl_FileSums.l0]; rw [if_pos c1, if_pos c2, if_pos c1, hr])
    exact h0
end
end Go.Proofs.Ytkdddlkhildliaa.B

/-! ### Srect -/
/- Rectangles: there are 27 with at most ten elements; the program's and the reference's are the same posets. -/
namespace Go.Proofs.Ytkdddlkhildliaa.B
open Go.RowKit Go.Proofs.Ytkdddlkhildliaa.M Go.Proofs.YtkdddlkhildliaaW.PrintWords Go.Proofs.YtkdddlkhildliaaW.PrintLast Go.Proofs.YtkdddlkhildliaaW.PrintMore
def sidesB (a b : Int) : Bool := decide (1 ≤ a ∧ a ≤ 10) && (decide (1 ≤ b ∧ b ≤ 10) && decide (a * b ≤ 10))
theorem mul_bounds {a b : Int} {m n : Int} (h1 : 0 ≤ a) (h2 : a ≤ m) (h3 : 0 ≤ b) (h4 : b ≤ n) : 0 ≤ a * b ∧ a * b ≤ m * n :=
  ⟨Int.mul_nonneg h1 h3, Int.mul_le_mul h2 h4 h3 (by omega)⟩
theorem poSides_is (a b : Int) : spec_poSides.f a b = some (sidesB a b) := by
  unfold spec_poSides.f sidesB
  rw [l1In_is, l1In_is]
  by_cases ha : 1 ≤ a ∧ a ≤ 10
  · rw [decide_eq_true ha, Option.bind_some, if_pos rfl]
    by_cases hb : 1 ≤ b ∧ b ≤ 10
    · rw [decide_eq_true hb, Option.bind_some, if_pos rfl]
      have hm := mul_bounds (a := a) (b := b) (m := 10) (n := 10) (by omega) ha.2 (by omega) hb.2
      rw [wrap64_id (by omega) (by omega)]
      rfl
    · rw [decide_eq_false hb, Option.bind_some, if_neg (by decide)]
      rfl
  · rw [decide_eq_false ha, Option.bind_some, if_neg (by decide)]
    rfl
theorem areSides_is (a b : Int) : impl_areSides.f a b 10 = some (sidesB a b) := by
  unfold impl_areSides.f sidesB
  rw [within_is, within_is]
  by_cases ha : 1 ≤ a ∧ a ≤ 10
  · rw [decide_eq_true ha, Option.bind_some, if_pos rfl]
    by_cases hb : 1 ≤ b ∧ b ≤ 10
    · rw [decide_eq_true hb, Option.bind_some, if_pos rfl]
      have hm := mul_bounds (a := a) (b := b) (m := 10) (n := 10) (by omega) ha.2 (by omega) hb.2
      rw [wrap64_id (by omega) (by omega)]
      rfl
    · rw [decide_eq_false hb, Option.bind_some, if_neg (by decide)]
      rfl
  · rw [decide_eq_false ha, Option.bind_some, if_neg (by decide)]
    rfl
theorem sides_nat {a b : Int} (h : sidesB a b = true) : ∃ m n : Nat, a = (m : Int) ∧ b = (n : Int) ∧ 1 ≤ m ∧ m ≤ 10 ∧ 1 ≤ n ∧ n ≤ 10 ∧ m * n ≤ 10 := by
  unfold sidesB at h
  rw [Bool.and_eq_true, Bool.and_eq_true, decide_eq_true_eq, decide_eq_true_eq, decide_eq_true_eq] at h
  obtain ⟨m, rfl⟩ : ∃ m : Nat, a = (m : Int) := ⟨a.toNat, by omega⟩
  obtain ⟨n, rfl⟩ : ∃ n : Nat, b = (n : Int) := ⟨b.toNat, by omega⟩
  refine ⟨m, n, rfl, rfl, by omega, by omega, by omega, by omega, ?_⟩
  have := h.2.2
  rw [← Int.natCast_mul] at this
  omega
def table : List (Nat × Nat × List Int) := [(1, 1, [0]), (1, 2, [0, 1]), (1, 3, [0, 1, 3]), (1, 4, [0, 1, 3, 7]), (1, 5, [0, 1, 3, 7, 15]), (1, 6, [0, 1, 3, 7, 15, 31]), (1, 7, [0, 1, 3, 7, 15, 31, 63]), (1, 8, [0, 1, 3, 7, 15, 31, 63, 127]), (1, 9, [0, 1, 3, 7, 15, 31, 63, 127, 255]), (1, 10, [0, 1, 3, 7, 15, 31, 63, 127, 255, 511]), (2, 1, [0, 1]), (2, 2, [0, 1, 1, 7]), (2, 3, [0, 1, 3, 1, 11, 31]), (2, 4, [0, 1, 3, 7, 1, 19, 55, 127]), (2, 5, [0, 1, 3, 7, 15, 1, 35, 103, 239, 511]), (3, 1, [0, 1, 3]), (3, 2, [0, 1, 1, 7, 5, 31]), (3, 3, [0, 1, 3, 1, 11, 31, 9, 91, 255]), (4, 1, [0, 1, 3, 7]), (4, 2, [0, 1, 1, 7, 5, 31, 21, 127]), (5, 1, [0, 1, 3, 7, 15]), (5, 2, [0, 1, 1, 7, 5, 31, 21, 127, 85, 511]), (6, 1, [0, 1, 3, 7, 15, 31]), (7, 1, [0, 1, 3, 7, 15, 31, 63]), (8, 1, [0, 1, 3, 7, 15, 31, 63, 127]), (9, 1, [0, 1, 3, 7, 15, 31, 63, 127, 255]), (10, 1, [0, 1, 3, 7, 15, 31, 63, 127, 255, 511])]
theorem rects : table.all (fun p => spec_poRectangle.f 200 (p.1 : Int) (p.2.1 : Int) == some p.2.2 && (impl_rectangle.f 200 (p.1 : Int) (p.2.1 : Int) == some p.2.2 && (goodB p.2.2 && p.2.2.length == p.1 * p.2.1))) = true := by decide +kernel
theorem tabled : ∀ m n : Fin 11, 1 ≤ m.val → 1 ≤ n.val → m.val * n.val ≤ 10 → table.any (fun p => p.1 == m.val && p.2.1 == n.val) = true := by decide +kernel
theorem rect_ev {m n : Nat} (h1 : 1 ≤ m) (h2 : m ≤ 10) (h3 : 1 ≤ n) (h4 : n ≤ 10) (h5 : m * n ≤ 10) : ∃ l P, Good l P ∧ P.length = m * n ∧ Ev (fun k => spec_poRectangle.f k (m : Int) (n : Int)) l ∧ Ev (fun k => impl_rectangle.f k (m : Int) (n : Int)) l := by
  have H := tabled ⟨m, by omega⟩ ⟨n, by omega⟩ h1 h3 h5
  rw [List.any_eq_true] at H
  obtain ⟨⟨m', n', l⟩, hp, he⟩ := H
  simp only [Bool.and_eq_true, beq_iff_eq] at he
  obtain ⟨rfl, rfl⟩ := he
  have K := List.all_eq_true.1 rects _ hp
  simp only [Bool.and_eq_true, beq_iff_eq] at K
  obtain ⟨k1, k2, k3, k4⟩ := K
  obtain ⟨P, hP⟩ := good_of k3
  exact ⟨l, P, hP, by have := hP.length; omega, Ev.of (fun k => spec_poRectangle.mono _ _ k) k1, Ev.of (fun k => impl_rectangle.mono _ _ k) k2⟩
end Go.Proofs.Ytkdddlkhildliaa.B

/-! ### Sidl -/
/- Is a set an ideal, as the reference asks. -/
namespace Go.Proofs.Ytkdddlkhildliaa.B
open Go.RowKit Go.Proofs.Ytkdddlkhildliaa.M Go.Proofs.YtkdddlkhildliaaW.PrintWords Go.Proofs.YtkdddlkhildliaaW.PrintLast Go.Proofs.YtkdddlkhildliaaW.PrintMore
attribute [local irreducible] Go.bits shl shr sd
theorem poIdeal_ev {l : List Int} {P : List Nat} (hP : Good l P) {s : Nat} (hs : s < 2 ^ P.length) : Ev (fun k => spec_poIdeal.f k l (s : Int)) (idl P s) := by
  have hn := hP.n10
  have hl := hP.length
  have H : ∀ (i : Nat) (_ : Unit), i ≤ P.length → True → Ev (fun k => spec_poIdeal.l0 k (s : Int) l (l.length : Int) (i : Int)) (allFrom (fun i => !s.testBit i || decide (sd (P.getD i 0) s = 0)) i P.length) := by
    refine ev_down (fun k (_ : Unit) i => spec_poIdeal.l0 k (s : Int) l (l.length : Int) i) (fun i _ => allFrom (fun i => !s.testBit i || decide (sd (P.getD i 0) s = 0)) i P.length) P.length (fun _ _ => True) ?_ ?_
    · intro _ _
      rw [allFrom_end]
      exact ev_step (Ev.now _) (fun k => by simp only [spec_poIdeal.l0]; rw [if_neg (by omega)])
    · intro i _ hi _ ih
      have c1 : (i : Int) < (l.length : Int) := by omega
      have c2 : 0 ≤ (i : Int) := by omega
      have hw : wrap64 ((i : Int) + 1) = (i : Int) + 1 := wrap64_id (by omega) (by omega)
      have hb := poIn_is (s := s) (e := i) (by omega)
      have ho := andNot_nat (hP.lt63 i) (p63 hs (by omega))
      have hr : rd l (i : Int) = ((P.getD i 0 : Nat) : Int) := by rw [hP.eq, rd_cast]
      rw [allFrom_step _ hi]
      cases hbit : s.testBit i with
      | true =>
        by_cases h0 : sd (P.getD i 0) s = 0
        · rw [decide_eq_true h0, Bool.or_true, Bool.true_and]
          exact ev_step (ih () trivial) (fun k => by simp only [spec_poIdeal.l0]; rw [if_pos c1, if_pos c2, if_pos c1, hb, hbit, Option.bind_some, if_pos rfl, hr, ho, if_pos (sd_zero_nat.2 h0), hw])
        · rw [decide_eq_false h0, Bool.not_true, Bool.or_false, Bool.false_and]
          exact ev_step (Ev.now _) (fun k => by simp only [spec_poIdeal.l0]; rw [if_pos c1, if_pos c2, if_pos c1, hb, hbit, Option.bind_some, if_pos rfl, hr, ho, if_neg (fun h => h0 (sd_zero_nat.1 h))])
      | false =>
        rw [Bool.not_false, Bool.true_or, Bool.true_and]
        exact ev_step (ih () trivial) (fun k => by simp only [spec_poIdeal.l0]; rw [if_pos c1, if_pos c2, if_pos c1, hb, hbit, Option.bind_some, if_neg (by decide), hw])
  unfold spec_poIdeal.f
  exact H 0 () (by omega) trivial
end Go.Proofs.Ytkdddlkhildliaa.B

/-! ### Mrow -/
/- Toggles and rowmotion as plain laws on sets told by their bits. -/
namespace Go.Proofs.Ytkdddlkhildliaa.B
open Go.Proofs.Ytkdddlkhildliaa.M
/-- A set toggled at an element. -/
def tog (P : List Nat) (s e : Nat) : Nat := if idl P (s ^^^ 2 ^ e) then s ^^^ 2 ^ e else s
theorem tog_lt {P : List Nat} {s e : Nat} (hs : s < 2 ^ P.length) (he : e < P.length) : tog P s e < 2 ^ P.length := by
  unfold tog
  split
  · exact Nat.xor_lt_two_pow hs (Nat.pow_lt_pow_right (by decide) he)
  · exact hs
theorem xor_bit (s e j : Nat) : (s ^^^ 2 ^ e).testBit j = if e = j then !s.testBit j else s.testBit j := by
  rw [Nat.testBit_xor, Nat.testBit_two_pow]
  by_cases h : e = j
  · simp [h]
  · simp [h]
theorem tog_idl {P : List Nat} {s e : Nat} (hs : idl P s = true) : idl P (tog P s e) = true := by
  unfold tog
  split
  · assumption
  · exact hs
/-- The ideal behind rowmotion. -/
def rw_ (P : List Nat) (s : Nat) : Nat := dn P (bm P (sd (2 ^ P.length - 1) s))
/-- The ideal whose rowmotion it is: what lies above nothing that is greatest in it. -/
def bk (P : List Nat) (s : Nat) : Nat := foldFrom (fun o i => if (tp P s).testBit i then o else (if P.getD i 0 &&& tp P s = 0 then o ||| 2 ^ i else o)) 0 P.length 0
theorem bk_bit (P : List Nat) (s j : Nat) : (bk P s).testBit j = true ↔ j < P.length ∧ (tp P s).testBit j = false ∧ ∀ i, (P.getD j 0).testBit i = true → (tp P s).testBit i = false := by
  have H := foldFrom_inv (fun o i => if (tp P s).testBit i then o else (if P.getD i 0 &&& tp P s = 0 then o ||| 2 ^ i else o)) (fun m o => o.testBit j = true ↔ j < m ∧ (tp P s).testBit j = false ∧ P.getD j 0 &&& tp P s = 0) P.length ?_ 0 0 (by omega) ?_
  · rw [← and_eq_zero]; exact H
  · intro i o hi hQ
    cases hb : (tp P s).testBit i with
    | false =>
      by_cases h0 : P.getD i 0 &&& tp P s = 0
      · simp only [h0, Bool.false_eq_true, if_true, if_false]
        rw [Nat.testBit_or, Bool.or_eq_true, hQ, Nat.testBit_two_pow, decide_eq_true_eq]
        constructor
        · rintro (⟨h1, h2⟩ | rfl)
          · exact ⟨by omega, h2⟩
          · exact ⟨by omega, hb, h0⟩
        · rintro ⟨h1, h2⟩
          rcases Nat.lt_or_ge j i with h4 | h4
          · exact .inl ⟨h4, h2⟩
          · exact .inr (by omega)
      · simp only [h0, Bool.false_eq_true, if_false]
        rw [hQ]
        constructor
        · rintro ⟨h1, h2⟩; exact ⟨by omega, h2⟩
        · rintro ⟨h1, h2, h3⟩
          rcases Nat.lt_or_ge j i with h4 | h4
          · exact ⟨h4, h2, h3⟩
          · rw [show j = i by omega] at h3; exact absurd h3 h0
    | true =>
      simp only [if_true]
      rw [hQ]
      constructor
      · rintro ⟨h1, h2⟩; exact ⟨by omega, h2⟩
      · rintro ⟨h1, h2, h3⟩
        rcases Nat.lt_or_ge j i with h4 | h4
        · exact ⟨h4, h2, h3⟩
        · rw [show j = i by omega, hb] at h2; cases h2
  · simp
theorem bk_lt (P : List Nat) (s : Nat) : bk P s < 2 ^ P.length := lt_of_bits (fun j hj => ((bk_bit P s j).1 hj).1)
section
variable {l : List Int} {P : List Nat} (hP : Good l P)
include hP
theorem below_lt {i j : Nat} (h : (P.getD i 0).testBit j = true) : j < i ∧ i < P.length := by
  rcases Nat.lt_or_ge i P.length with h1 | h1
  · exact ⟨bit_lt (hP.lt i h1) h, h1⟩
  · rw [List.getD_eq_getElem?_getD, List.getElem?_eq_none h1] at h
    simp at h
theorem below_trans {i j k : Nat} (h : (P.getD i 0).testBit j = true) (h2 : (P.getD j 0).testBit k = true) : (P.getD i 0).testBit k = true := by
  have := hP.tr i (below_lt hP h).2 j h
  exact sd_eq_zero.1 this k h2
theorem idl_closed {s : Nat} (h : idl P s = true) {i j : Nat} (hs : s.testBit i = true) (hj : (P.getD i 0).testBit j = true) : s.testBit j = true :=
  (idl_iff P s).1 h i (below_lt hP hj).2 hs j hj
theorem dn_idl (s : Nat) : idl P (dn P s) = true := by
  rw [idl_iff]
  intro i hi hs j hj
  rw [dn_bit] at hs ⊢
  rcases hs with h | ⟨i', h1, h2, h3⟩
  · exact .inr ⟨i, hi, h, hj⟩
  · exact .inr ⟨i', h1, h2, below_trans hP h3 hj⟩
theorem dn_lt {s : Nat} (hs : s < 2 ^ P.length) : dn P s < 2 ^ P.length := by
  apply lt_of_bits
  intro j hj
  rw [dn_bit] at hj
  rcases hj with h | ⟨i, h1, h2, h3⟩
  · exact bit_lt hs h
  · have := below_lt hP h3; omega
omit hP in
theorem tp_lt {s : Nat} (hs : s < 2 ^ P.length) : tp P s < 2 ^ P.length := lt_of_bits (fun j hj => bit_lt hs ((tp_bit P s j).1 hj).1)
omit hP in
theorem bm_lt (s : Nat) : bm P s < 2 ^ P.length := lt_of_bits (fun j hj => ((bm_bit P s j).1 hj).1)
theorem rw_lt (s : Nat) : rw_ P s < 2 ^ P.length := dn_lt hP (bm_lt _)
theorem rw_idl (s : Nat) : idl P (rw_ P s) = true := dn_idl hP _
theorem bk_idl (s : Nat) : idl P (bk P s) = true := by
  rw [idl_iff]
  intro i hi hs j hj
  rw [bk_bit] at hs ⊢
  exact ⟨by have := below_lt hP hj; omega, hs.2.2 j hj, fun i' hi' => hs.2.2 i' (below_trans hP hj hi')⟩
omit hP in
theorem all_bit {n j : Nat} {s : Nat} : (sd (2 ^ n - 1) s).testBit j = true ↔ j < n ∧ s.testBit j = false := by
  rw [sd_bit, Nat.testBit_two_pow_sub_one, Bool.and_eq_true, decide_eq_true_eq, Bool.not_eq_true']
/-- Each element outside of an ideal lies over a least one, or is one. -/
theorem least_below {s : Nat} {j : Nat} (hj : j < P.length) (hs : s.testBit j = false) : ∃ i, (bm P (sd (2 ^ P.length - 1) s)).testBit i = true ∧ (i = j ∨ (P.getD j 0).testBit i = true) := by
  induction j using Nat.strongRecOn with
  | _ j ih =>
    by_cases h : ∃ i, (P.getD j 0).testBit i = true ∧ s.testBit i = false
    · obtain ⟨i, h1, h2⟩ := h
      have hl := below_lt hP h1
      obtain ⟨i', h3, h4⟩ := ih i hl.1 (by omega) h2
      refine ⟨i', h3, .inr ?_⟩
      rcases h4 with rfl | h4
      · exact h1
      · exact below_trans hP h1 h4
    · refine ⟨j, ?_, .inl rfl⟩
      rw [bm_bit, all_bit, and_eq_zero]
      refine ⟨hj, ⟨hj, hs⟩, fun i hi => ?_⟩
      cases hc : (sd (2 ^ P.length - 1) s).testBit i with
      | false => rfl
      | true => exact absurd ⟨i, hi, (all_bit.1 hc).2⟩ h
/-- Each element of an ideal lies below a greatest one, or is one. -/
theorem greatest_above {s : Nat} (hsl : s < 2 ^ P.length) {j : Nat} (hs : s.testBit j = true) : ∃ i, (tp P s).testBit i = true ∧ (i = j ∨ (P.getD i 0).testBit j = true) := by
  obtain ⟨d, hd⟩ : ∃ d, P.length - j = d := ⟨_, rfl⟩
  induction d using Nat.strongRecOn generalizing j with
  | _ d ih =>
    have hjn := bit_lt hsl hs
    by_cases h : ∃ i, i < P.length ∧ s.testBit i = true ∧ (P.getD i 0).testBit j = true
    · obtain ⟨i, h1, h2, h3⟩ := h
      have hl := below_lt hP h3
      obtain ⟨i', h4, h5⟩ := ih (P.length - i) (by omega) h2 rfl
      refine ⟨i', h4, .inr ?_⟩
      rcases h5 with rfl | h5
      · exact h3
      · exact below_trans hP h5 h3
    · refine ⟨j, ?_, .inl rfl⟩
      rw [tp_bit]
      refine ⟨hs, fun i hi hsi => ?_⟩
      cases hc : (P.getD i 0).testBit j with
      | false => rfl
      | true => exact absurd ⟨i, hi, hsi, hc⟩ h
/-- The greatest elements of the ideal behind rowmotion are the least ones outside. -/
theorem tp_rw {s : Nat} (j : Nat) : (tp P (rw_ P s)).testBit j = (bm P (sd (2 ^ P.length - 1) s)).testBit j := by
  rw [Bool.eq_iff_iff, tp_bit]
  unfold rw_
  constructor
  · rintro ⟨h1, h2⟩
    rw [dn_bit] at h1
    rcases h1 with h1 | ⟨i, h3, h4, h5⟩
    · exact h1
    · have := h2 i h3 (by rw [dn_bit]; exact .inl h4)
      rw [h5] at this; cases this
  · intro h
    refine ⟨by rw [dn_bit]; exact .inl h, fun i hi hs => ?_⟩
    cases hc : (P.getD i 0).testBit j with
    | false => rfl
    | true =>
      exfalso
      have hb := (bm_bit _ _ _).1 h
      have key : ∀ i', (bm P (sd (2 ^ P.length - 1) s)).testBit i' = true → (P.getD i' 0).testBit j = true → False := fun i' h1 h2 => by
        have h3 := (bm_bit _ _ _).1 h1
        have := and_eq_zero.1 h3.2.2 j h2
        rw [hb.2.1] at this; cases this
      rw [dn_bit] at hs
      rcases hs with h1 | ⟨i', h3, h4, h5⟩
      · exact key i h1 hc
      · exact key i' h4 (below_trans hP h5 hc)
/-- Rowmotion undone. -/
theorem bk_rw {s : Nat} (hsl : s < 2 ^ P.length) (hs : idl P s = true) : bk P (rw_ P s) = s := by
  apply Nat.eq_of_testBit_eq
  intro j
  rw [Bool.eq_iff_iff, bk_bit]
  constructor
  · rintro ⟨h1, h2, h3⟩
    cases hc : s.testBit j with
    | true => rfl
    | false =>
      obtain ⟨i, h4, h5⟩ := least_below hP h1 hc
      rw [← tp_rw hP] at h4
      rcases h5 with rfl | h5
      · rw [h4] at h2; cases h2
      · rw [h3 i h5] at h4; cases h4
  · intro h
    refine ⟨bit_lt hsl h, ?_, fun i hi => ?_⟩
    · rw [tp_rw hP]
      cases hc : (bm P (sd (2 ^ P.length - 1) s)).testBit j with
      | false => rfl
      | true => have := (all_bit.1 ((bm_bit _ _ _).1 hc).2.1).2; rw [h] at this; cases this
    · rw [tp_rw hP]
      cases hc : (bm P (sd (2 ^ P.length - 1) s)).testBit i with
      | false => rfl
      | true => have := (all_bit.1 ((bm_bit _ _ _).1 hc).2.1).2; rw [idl_closed hP hs h hi] at this; cases this
/-- And the other way. -/
theorem rw_bk {s : Nat} (hsl : s < 2 ^ P.length) (hs : idl P s = true) : rw_ P (bk P s) = s := by
  apply Nat.eq_of_testBit_eq
  intro j
  have hbm : ∀ i, (bm P (sd (2 ^ P.length - 1) (bk P s))).testBit i = true ↔ (tp P s).testBit i = true := by
    intro i
    rw [bm_bit, all_bit, and_eq_zero]
    constructor
    · rintro ⟨h1, ⟨_, h2⟩, h3⟩
      cases hc : (tp P s).testBit i with
      | true => rfl
      | false =>
        exfalso
        have : ¬ ((bk P s).testBit i = true) := by rw [h2]; decide
        rw [bk_bit] at this
        apply this
        refine ⟨h1, hc, fun i' hi' => ?_⟩
        have h4 := h3 i' hi'
        have h5 : (bk P s).testBit i' = true := by
          cases hx : (bk P s).testBit i' with
          | true => rfl
          | false =>
            have : (sd (2 ^ P.length - 1) (bk P s)).testBit i' = true := all_bit.2 ⟨by have := below_lt hP hi'; omega, hx⟩
            rw [h4] at this; cases this
        exact ((bk_bit _ _ _).1 h5).2.1
    · intro h
      have h1 : i < P.length := bit_lt (tp_lt hsl) h
      have hnb : (bk P s).testBit i = false := by
        cases hx : (bk P s).testBit i with
        | false => rfl
        | true => have := ((bk_bit _ _ _).1 hx).2.1; rw [h] at this; cases this
      refine ⟨h1, ⟨h1, hnb⟩, fun i' hi' => ?_⟩
      have hl := below_lt hP hi'
      have htop := (tp_bit _ _ _).1 h
      have hin : (bk P s).testBit i' = true := by
        rw [bk_bit]
        refine ⟨by omega, ?_, fun i2 h2 => ?_⟩
        · cases hx : (tp P s).testBit i' with
          | false => rfl
          | true => have := ((tp_bit _ _ _).1 hx).2 i h1 htop.1; rw [hi'] at this; cases this
        · cases hx : (tp P s).testBit i2 with
          | false => rfl
          | true => have := ((tp_bit _ _ _).1 hx).2 i h1 htop.1; rw [below_trans hP hi' h2] at this; cases this
      rw [sd_bit, hin]; simp
  unfold rw_
  rw [Bool.eq_iff_iff, dn_bit]
  constructor
  · rintro (h | ⟨i, h1, h2, h3⟩)
    · exact ((tp_bit _ _ _).1 ((hbm j).1 h)).1
    · exact idl_closed hP hs ((tp_bit _ _ _).1 ((hbm i).1 h2)).1 h3
  · intro h
    obtain ⟨i, h1, h2⟩ := greatest_above hP hsl h
    rcases h2 with rfl | h2
    · exact .inl ((hbm i).2 h1)
    · exact .inr ⟨i, bit_lt (tp_lt hsl) h1, (hbm i).2 h1, h2⟩
/-- All toggles, from the first element on, are rowmotion back. -/
theorem toggles_bk {s : Nat} (hsl : s < 2 ^ P.length) (hs : idl P s = true) : foldFrom (tog P) 0 P.length s = bk P s := by
  have H := foldFrom_inv (tog P) (fun m o => o < 2 ^ P.length ∧ idl P o = true ∧ ∀ j, o.testBit j = if j < m then (bk P s).testBit j else s.testBit j) P.length ?_ 0 s (by omega) ⟨hsl, hs, fun j => by rw [if_neg (by omega)]⟩
  · obtain ⟨h1, _, h3⟩ := H
    apply Nat.eq_of_testBit_eq
    intro j
    rw [h3]
    split
    · rfl
    · rename_i hj
      rw [Nat.testBit_lt_two_pow (Nat.lt_of_lt_of_le hsl (two_pow_le (by omega))), Nat.testBit_lt_two_pow (Nat.lt_of_lt_of_le (bk_lt P s) (two_pow_le (by omega)))]
  · rintro m o hm ⟨hol, hoi, hob⟩
    refine ⟨tog_lt hol hm, tog_idl hoi, fun j => ?_⟩
    have hom : o.testBit m = s.testBit m := by rw [hob, if_neg (by omega)]
    -- what the toggle asks is just what the answer has
    have key : idl P (o ^^^ 2 ^ m) = true ↔ (bk P s).testBit m = !s.testBit m := by
      cases hsm : s.testBit m with
      | true =>
        rw [hsm] at hom
        rw [idl_iff]
        constructor
        · intro h
          cases hx : (bk P s).testBit m with
          | false => rfl
          | true =>
            exfalso
            have hb := (bk_bit _ _ _).1 hx
            obtain ⟨i, h1, h2⟩ := greatest_above hP hsl hsm
            rcases h2 with rfl | h2
            · rw [hb.2.1] at h1; cases h1
            · have hl := below_lt hP h2
              have h3 := h i hl.2 (by rw [xor_bit, if_neg (by omega), hob, if_neg (by omega)]; exact ((tp_bit _ _ _).1 h1).1) m h2
              rw [xor_bit, if_pos rfl, hom] at h3; cases h3
        · intro h i hi hsi j hj
          simp only [Bool.not_true] at h
          rw [xor_bit] at hsi ⊢
          by_cases hmi : m = i
          · subst hmi; rw [if_pos rfl, hom] at hsi; cases hsi
          · rw [if_neg hmi] at hsi
            have hoj := idl_closed hP hoi hsi hj
            by_cases hmj : m = j
            · subst hmj
              exfalso
              have hl := below_lt hP hj
              have hsi2 : s.testBit i = true := by rw [hob, if_neg (by omega)] at hsi; exact hsi
              have : (bk P s).testBit m = true := by
                rw [bk_bit]
                refine ⟨hm, ?_, fun i' hi' => ?_⟩
                · cases hx : (tp P s).testBit m with
                  | false => rfl
                  | true => have := ((tp_bit _ _ _).1 hx).2 i hi hsi2; rw [hj] at this; cases this
                · cases hx : (tp P s).testBit i' with
                  | false => rfl
                  | true => have := ((tp_bit _ _ _).1 hx).2 i hi hsi2; rw [below_trans hP hj hi'] at this; cases this
              rw [this] at h; cases h
            · rw [if_neg hmj]; exact hoj
      | false =>
        rw [hsm] at hom
        rw [idl_iff]
        have hbelow : ∀ j, (P.getD m 0).testBit j = true → (o.testBit j = (bk P s).testBit j) := fun j hj => by
          have := below_lt hP hj
          rw [hob, if_pos (by omega)]
        constructor
        · intro h
          show (bk P s).testBit m = true
          rw [bk_bit]
          have hin : ∀ j, (P.getD m 0).testBit j = true → (bk P s).testBit j = true := fun j hj => by
            have h2 := h m hm (by rw [xor_bit, if_pos rfl, hom]; rfl) j hj
            have hl := below_lt hP hj
            rw [xor_bit, if_neg (by omega)] at h2
            rw [← hbelow j hj]; exact h2
          refine ⟨hm, ?_, fun i' hi' => ((bk_bit _ _ _).1 (hin i' hi')).2.1⟩
          cases hx : (tp P s).testBit m with
          | false => rfl
          | true => have := ((tp_bit _ _ _).1 hx).1; rw [hsm] at this; cases this
        · intro h i hi hsi j hj
          simp only [Bool.not_false] at h
          have hl := below_lt hP hj
          rw [xor_bit] at hsi ⊢
          by_cases hmi : m = i
          · subst hmi
            rw [if_neg (by omega), hbelow j hj]
            exact idl_closed hP (bk_idl hP s) h hj
          · rw [if_neg hmi] at hsi
            have hoj := idl_closed hP hoi hsi hj
            by_cases hmj : m = j
            · subst hmj; rw [hom] at hoj; cases hoj
            · rw [if_neg hmj]; exact hoj
    unfold tog
    by_cases hk : idl P (o ^^^ 2 ^ m) = true
    · rw [if_pos hk, xor_bit]
      have hk2 := key.1 hk
      by_cases hmj : m = j
      · subst hmj
        rw [if_pos rfl, if_pos (by omega), hom, hk2]
      · rw [if_neg hmj, hob]
        by_cases h : j < m
        · rw [if_pos h, if_pos (by omega)]
        · rw [if_neg h, if_neg (by omega)]
    · rw [if_neg hk, hob]
      by_cases hmj : m = j
      · subst hmj
        rw [if_neg (by omega), if_pos (by omega)]
        cases h1 : s.testBit m <;> cases h2 : (bk P s).testBit m <;> first | rfl | (exfalso; apply hk; rw [key, h1, h2]; rfl)
      · by_cases h : j < m
        · rw [if_pos h, if_pos (by omega)]
        · rw [if_neg h, if_neg (by omega)]
end
end Go.Proofs.Ytkdddlkhildliaa.B

/-! ### Stog -/
/- A set toggled at an element, as the reference does it. -/
namespace Go.Proofs.Ytkdddlkhildliaa.B
open Go.RowKit Go.Proofs.Ytkdddlkhildliaa.M Go.Proofs.YtkdddlkhildliaaW.PrintWords Go.Proofs.YtkdddlkhildliaaW.PrintLast Go.Proofs.YtkdddlkhildliaaW.PrintMore
attribute [local irreducible] Go.bits shl shr sd
theorem tgAt_ev {l : List Int} {P : List Nat} (hP : Good l P) {s e : Nat} (hs : s < 2 ^ P.length) (he : e < P.length) : Ev (fun k => spec_tgAt.f k l (s : Int) (e : Int)) ((tog P s e : Nat) : Int) := by
  have hn := hP.n10
  have h2 : 2 ^ e < 2 ^ P.length := Nat.pow_lt_pow_right (by decide) he
  have hx := Nat.xor_lt_two_pow hs h2
  have hxor : Go.bits .xor .i64 (s : Int) (shl .i64 1 (e : Int)) = ((s ^^^ 2 ^ e : Nat) : Int) := by rw [shl_one (by omega), xor_nat (p63 hs (by omega)) (p63 h2 (by omega))]
  unfold spec_tgAt.f
  refine ev_bind (poIdeal_ev hP hx) ?_ (fun k => by rw [if_pos (by omega), hxor])
  unfold tog
  cases hi : idl P (s ^^^ 2 ^ e) with
  | true => exact ev_as (Ev.now _) (fun k => by rw [if_pos rfl]; rfl)
  | false => exact ev_as (Ev.now _) (fun k => by rw [if_neg (by decide)]; rfl)
end Go.Proofs.Ytkdddlkhildliaa.B

/-! ### Mwrd -/
/- Words of elements, plain. -/
namespace Go.Proofs.Ytkdddlkhildliaa.B
open Go.RowKit Go.Proofs.Ytkdddlkhildliaa.M Go.Proofs.YtkdddlkhildliaaW.PrintWords Go.Proofs.YtkdddlkhildliaaW.PrintLast Go.Proofs.YtkdddlkhildliaaW.PrintMore
attribute [local irreducible] Go.bits shl shr sd
theorem getD_mem {o : List Int} {i : Nat} (h : i < o.length) : o.getD i 0 ∈ o := by
  rw [List.getD_eq_getElem?_getD, List.getElem?_eq_getElem h, Option.getD_some]; exact List.getElem_mem h
def rangeB (n : Int) (o : List Int) : Bool := o.all (fun e => decide (0 ≤ e ∧ e ≤ n))
def wordB (P : List Nat) (m : Int) (o : List Int) : Bool := decide ((o.length : Int) ≤ m) && rangeB ((P.length : Int) - 1) o
/-- A set toggled at the elements of a word. -/
def togs (P : List Nat) (s : Nat) (o : List Int) : Nat := o.foldl (fun s e => tog P s e.toNat) s
theorem range_at {n : Nat} {o : List Int} (hr : rangeB ((n : Int) - 1) o = true) {i : Nat} (hi : i < o.length) : ∃ e : Nat, o.getD i 0 = (e : Int) ∧ e < n := by
  unfold rangeB at hr
  rw [List.all_eq_true] at hr
  have := hr _ (getD_mem hi)
  rw [decide_eq_true_eq] at this
  exact ⟨(o.getD i 0).toNat, by omega, by omega⟩
theorem range_mem {n : Nat} {o : List Int} (hr : rangeB ((n : Int) - 1) o = true) {e : Int} (he : e ∈ o) : e.toNat < n := by
  unfold rangeB at hr
  rw [List.all_eq_true] at hr
  have := hr _ he
  rw [decide_eq_true_eq] at this
  omega
theorem togs_ok {P : List Nat} : ∀ (o : List Int) (s : Nat), (∀ e ∈ o, e.toNat < P.length) → s < 2 ^ P.length → togs P s o < 2 ^ P.length ∧ (idl P s = true → idl P (togs P s o) = true) := by
  intro o
  induction o with
  | nil => intro s _ hs; exact ⟨hs, fun h => h⟩
  | cons e es ih =>
    intro s h hs
    have h1 := ih (tog P s e.toNat) (fun x hx => h x (List.mem_cons_of_mem _ hx)) (tog_lt hs (h e (List.mem_cons_self ..)))
    exact ⟨h1.1, fun hi => h1.2 (tog_idl hi)⟩
/-- The first place where something holds, or -1. -/
def idx (p : Int → Bool) : Nat → List Int → Int
  | _, [] => -1
  | i, e :: es => if p e = true then (i : Int) else idx p (i + 1) es
theorem idx_any (p : Int → Bool) : ∀ (o : List Int) (i : Nat), decide (idx p i o ≥ 0) = o.any p := by
  intro o
  induction o with
  | nil => intro i; rfl
  | cons e es ih =>
    intro i
    unfold idx
    rw [List.any_cons]
    cases h : p e with
    | true => rw [if_pos rfl, Bool.true_or]; exact decide_eq_true (by omega)
    | false => rw [if_neg (by decide), Bool.false_or]; exact ih _
theorem range_any (n : Int) (o : List Int) : (!o.any (fun e => !decide (0 ≤ e ∧ e ≤ n))) = rangeB n o := by
  unfold rangeB
  rw [List.all_eq_not_any_not]
end Go.Proofs.Ytkdddlkhildliaa.B

/-! ### Sprom -/
/- Promotion: the word of a rectangle, and an ideal toggled along it. -/
namespace Go.Proofs.Ytkdddlkhildliaa.B
open Go.RowKit Go.Proofs.Ytkdddlkhildliaa.M Go.Proofs.YtkdddlkhildliaaW.PrintWords Go.Proofs.YtkdddlkhildliaaW.PrintLast Go.Proofs.YtkdddlkhildliaaW.PrintMore
attribute [local irreducible] Go.bits shl shr sd
def pcell (m n t r : Nat) : List Int := if 0 ≤ (r : Int) + (1 - (m : Int) + (t : Int)) ∧ (r : Int) + (1 - (m : Int) + (t : Int)) ≤ (n : Int) - 1 then [(n : Int) * (r : Int) + ((r : Int) + (1 - (m : Int) + (t : Int)))] else []
def prow (m n t r : Nat) : List Int := (List.range' r (m - r)).flatMap (pcell m n t)
def pword (m n t : Nat) : List Int := (List.range' t (m + n - 1 - t)).flatMap (fun t => prow m n t 0)
theorem prow_end (m n t : Nat) : prow m n t m = [] := by unfold prow; simp
theorem prow_step {m n t r : Nat} (h : r < m) : prow m n t r = pcell m n t r ++ prow m n t (r + 1) := by
  unfold prow
  obtain ⟨d, hd⟩ : ∃ d, m - r = d + 1 := ⟨m - r - 1, by omega⟩
  rw [hd, show m - (r + 1) = d by omega, List.range'_succ, List.flatMap_cons]
theorem pword_end (m n : Nat) : pword m n (m + n - 1) = [] := by unfold pword; simp
theorem pword_step {m n t : Nat} (h : t < m + n - 1) : pword m n t = prow m n t 0 ++ pword m n (t + 1) := by
  unfold pword
  obtain ⟨d, hd⟩ : ∃ d, m + n - 1 - t = d + 1 := ⟨m + n - 1 - t - 1, by omega⟩
  rw [hd, show m + n - 1 - (t + 1) = d by omega, List.range'_succ, List.flatMap_cons]
theorem cell_in {m n t r : Nat} (h1 : r < m) (hc : 0 ≤ (r : Int) + (1 - (m : Int) + (t : Int)) ∧ (r : Int) + (1 - (m : Int) + (t : Int)) ≤ (n : Int) - 1) : ∃ e : Nat, (n : Int) * (r : Int) + ((r : Int) + (1 - (m : Int) + (t : Int))) = (e : Int) ∧ e < m * n := by
  have k : n * (r + 1) ≤ n * m := Nat.mul_le_mul_left n (by omega)
  rw [Nat.mul_add, Nat.mul_one, Nat.mul_comm n m] at k
  rw [← Int.natCast_mul]
  exact ⟨n * r + ((r : Int) + (1 - (m : Int) + (t : Int))).toNat, by omega, by omega⟩
theorem pword_range {m n : Nat} : ∀ e ∈ pword m n 0, 0 ≤ e ∧ e < ((m * n : Nat) : Int) := by
  intro e he
  unfold pword at he
  rw [List.mem_flatMap] at he
  obtain ⟨t, _, he⟩ := he
  unfold prow at he
  rw [List.mem_flatMap] at he
  obtain ⟨r, hr, he⟩ := he
  rw [List.mem_range'_1] at hr
  unfold pcell at he
  split at he
  · rename_i hc
    rw [List.mem_singleton] at he
    obtain ⟨x, h1, h2⟩ := cell_in (by omega) hc
    omega
  · cases he
theorem pword_length {m n : Nat} (hm : m ≤ 10) (hn : n ≤ 10) : (pword m n 0).length ≤ 1048576 := by
  have hc : ∀ t r, (pcell m n t r).length ≤ 1 := by intro t r; unfold pcell; split <;> simp
  have hr : ∀ t (l : List Nat), (l.flatMap (pcell m n t)).length ≤ l.length := by
    intro t l
    induction l with
    | nil => simp
    | cons x xs ih => rw [List.flatMap_cons, List.length_append, List.length_cons]; have := hc t x; omega
  have hw : ∀ (l : List Nat), (l.flatMap (fun t => prow m n t 0)).length ≤ m * l.length := by
    intro l
    induction l with
    | nil => simp
    | cons x xs ih =>
      rw [List.flatMap_cons, List.length_append, List.length_cons, Nat.mul_add, Nat.mul_one]
      have := hr x (List.range' 0 (m - 0))
      rw [List.length_range'] at this
      unfold prow
      unfold prow at ih
      omega
  have := hw (List.range' 0 (m + n - 1 - 0))
  rw [List.length_range'] at this
  unfold pword
  have h2 : m * (m + n - 1 - 0) ≤ 10 * 20 := Nat.mul_le_mul hm (by omega)
  omega
section
variable {m n : Nat} (h1 : 1 ≤ m) (h2 : m ≤ 10) (h3 : 1 ≤ n) (h4 : n ≤ 10) (h5 : m * n ≤ 10)
include h1 h2 h3 h4 h5
set_option linter.unusedSectionVars false
theorem nums {t r : Nat} (ht : t < m + n - 1) (hr : r < m) : wrap64 ((r : Int) + (1 - (m : Int) + (t : Int))) = (r : Int) + (1 - (m : Int) + (t : Int)) ∧ wrap64 ((n : Int) - 1) = (n : Int) - 1 ∧ wrap64 ((r : Int) + 1) = (r : Int) + 1 ∧ wrap64 (wrap64 ((n : Int) * (r : Int)) + ((r : Int) + (1 - (m : Int) + (t : Int)))) = (n : Int) * (r : Int) + ((r : Int) + (1 - (m : Int) + (t : Int))) := by
  have hm := mul_bounds (a := (n : Int)) (b := (r : Int)) (m := 10) (n := 10) (by omega) (by omega) (by omega) (by omega)
  refine ⟨wrap64_id (by omega) (by omega), wrap64_id (by omega) (by omega), wrap64_id (by omega) (by omega), ?_⟩
  rw [wrap64_id (x := (n : Int) * (r : Int)) (by omega) (by omega)]
  exact wrap64_id (by omega) (by omega)
theorem promotion_l1 {t : Nat} (ht : t < m + n - 1) (fin : List Int → List Int) (hnext : ∀ w : List Int, w.length ≤ 10 * (t + 1) → Ev (fun k => impl_promotion.l0 k (m : Int) (n : Int) w (1 - (m : Int) + ((t : Int) + 1))) (fin w)) :
    ∀ (r : Nat) (w : List Int), r ≤ m → w.length ≤ 10 * t + r → Ev (fun k => impl_promotion.l1 k (m : Int) (n : Int) w (1 - (m : Int) + (t : Int)) (m : Int) (r : Int)) (fin (w ++ prow m n t r)) := by
  refine ev_down (fun k (w : List Int) r => impl_promotion.l1 k (m : Int) (n : Int) w (1 - (m : Int) + (t : Int)) (m : Int) r) (fun r w => fin (w ++ prow m n t r)) m (fun r w => w.length ≤ 10 * t + r) ?_ ?_
  · intro w hw
    rw [prow_end, List.append_nil]
    have hw2 : wrap64 (1 - (m : Int) + (t : Int) + 1) = 1 - (m : Int) + ((t : Int) + 1) := by rw [wrap64_id (by omega) (by omega)]; omega
    exact ev_step (hnext w (by omega)) (fun k => by simp only [impl_promotion.l1]; rw [if_neg (by omega), hw2])
  · intro r w hr hw ih
    have c1 : (r : Int) < (m : Int) := by omega
    have c2 : w.length < 17592186044416 := by omega
    obtain ⟨e1, e2, e3, e4⟩ := nums h1 h2 h3 h4 h5 ht hr
    rw [prow_step hr]
    unfold pcell
    by_cases hc : 0 ≤ (r : Int) + (1 - (m : Int) + (t : Int)) ∧ (r : Int) + (1 - (m : Int) + (t : Int)) ≤ (n : Int) - 1
    · rw [if_pos hc]
      have := ih (w ++ [(n : Int) * (r : Int) + ((r : Int) + (1 - (m : Int) + (t : Int)))]) (by rw [List.length_append, List.length_singleton]; omega)
      rw [List.append_assoc] at this
      exact ev_step this (fun k => by simp only [impl_promotion.l1]; rw [if_pos c1, e1, e2, within_is, decide_eq_true hc, Option.bind_some, if_pos rfl, if_pos c2, e4, e3])
    · rw [if_neg hc, List.nil_append]
      exact ev_step (ih w (by omega)) (fun k => by simp only [impl_promotion.l1]; rw [if_pos c1, e1, e2, within_is, decide_eq_false hc, Option.bind_some, if_neg (by decide), e3])
theorem promotion_ev : Ev (fun k => impl_promotion.f k (m : Int) (n : Int)) (pword m n 0) := by
  have H : ∀ (t : Nat) (w : List Int), t ≤ m + n - 1 → w.length ≤ 10 * t → Ev (fun k => impl_promotion.l0 k (m : Int) (n : Int) w (1 - (m : Int) + (t : Int))) (w ++ pword m n t) := by
    refine ev_down (fun k (w : List Int) t => impl_promotion.l0 k (m : Int) (n : Int) w (1 - (m : Int) + t)) (fun t w => w ++ pword m n t) (m + n - 1) (fun t w => w.length ≤ 10 * t) ?_ ?_
    · intro w _
      rw [pword_end, List.append_nil]
      exact ev_step (Ev.now _) (fun k => by simp only [impl_promotion.l0]; rw [if_neg (by omega)])
    · intro t w ht hw ih
      have c1 : 1 - (m : Int) + (t : Int) < (n : Int) := by omega
      rw [pword_step ht, ← List.append_assoc]
      have := promotion_l1 h1 h2 h3 h4 h5 ht (fun w => w ++ pword m n (t + 1)) (fun w hw => ih w (by omega)) 0 w (by omega) (by omega)
      exact ev_step this (fun k => by simp only [impl_promotion.l0]; rw [if_pos c1]; rfl)
  unfold impl_promotion.f
  have := H 0 [] (by omega) (by simp)
  rw [List.nil_append] at this
  exact ev_as this (fun k => by rw [wrap64_id (by omega) (by omega)]; simp)
theorem tgPromote_l1 {l : List Int} {P : List Nat} (hP : Good l P) (hlen : P.length = m * n) {t : Nat} (ht : t < m + n - 1) (rest : List Int) (hnext : ∀ s : Nat, s < 2 ^ P.length → Ev (fun k => spec_tgPromote.l0 k (m : Int) (n : Int) (s : Int) (1 - (m : Int) + ((t : Int) + 1)) l) ((togs P s rest : Nat) : Int)) :
    ∀ (r : Nat) (s : Nat), r ≤ m → s < 2 ^ P.length → Ev (fun k => spec_tgPromote.l1 k (m : Int) (n : Int) (s : Int) (1 - (m : Int) + (t : Int)) (r : Int) l) ((togs P s (prow m n t r ++ rest) : Nat) : Int) := by
  refine ev_down (fun k (s : Nat) r => spec_tgPromote.l1 k (m : Int) (n : Int) (s : Int) (1 - (m : Int) + (t : Int)) r l) (fun r s => ((togs P s (prow m n t r ++ rest) : Nat) : Int)) m (fun _ s => s < 2 ^ P.length) ?_ ?_
  · intro s hs
    rw [prow_end, List.nil_append]
    have hw2 : wrap64 (1 - (m : Int) + (t : Int) + 1) = 1 - (m : Int) + ((t : Int) + 1) := by rw [wrap64_id (by omega) (by omega)]; omega
    exact ev_step (hnext s hs) (fun k => by simp only [spec_tgPromote.l1]; rw [if_neg (by omega), hw2])
  · intro r s hr hs ih
    have c1 : (r : Int) < (m : Int) := by omega
    obtain ⟨e1, e2, e3, e4⟩ := nums h1 h2 h3 h4 h5 ht hr
    rw [prow_step hr]
    unfold pcell
    by_cases hc : 0 ≤ (r : Int) + (1 - (m : Int) + (t : Int)) ∧ (r : Int) + (1 - (m : Int) + (t : Int)) ≤ (n : Int) - 1
    · rw [if_pos hc]
      obtain ⟨e, he, hlt⟩ := cell_in hr hc
      rw [he] at e4 ⊢
      refine ev_stepb (tgAt_ev hP hs (show e < P.length by omega)) ?_ (fun k => by simp only [spec_tgPromote.l1]; rw [if_pos c1, e1, e2, l1In_is, decide_eq_true hc, Option.bind_some, if_pos rfl, e4])
      exact ev_as (ih _ (tog_lt hs (by omega))) (fun k => by rw [e3]; rfl)
    · rw [if_neg hc, List.nil_append]
      exact ev_step (ih s hs) (fun k => by simp only [spec_tgPromote.l1]; rw [if_pos c1, e1, e2, l1In_is, decide_eq_false hc, Option.bind_some, if_neg (by decide), e3])
theorem tgPromote_ev {l : List Int} {P : List Nat} (hP : Good l P) (hlen : P.length = m * n) (hr : Ev (fun k => spec_poRectangle.f k (m : Int) (n : Int)) l) {s : Nat} (hs : s < 2 ^ P.length) : Ev (fun k => spec_tgPromote.f k (m : Int) (n : Int) (s : Int)) ((togs P s (pword m n 0) : Nat) : Int) := by
  have H : ∀ (t : Nat) (s : Nat), t ≤ m + n - 1 → s < 2 ^ P.length → Ev (fun k => spec_tgPromote.l0 k (m : Int) (n : Int) (s : Int) (1 - (m : Int) + (t : Int)) l) ((togs P s (pword m n t) : Nat) : Int) := by
    refine ev_down (fun k (s : Nat) t => spec_tgPromote.l0 k (m : Int) (n : Int) (s : Int) (1 - (m : Int) + t) l) (fun t s => ((togs P s (pword m n t) : Nat) : Int)) (m + n - 1) (fun _ s => s < 2 ^ P.length) ?_ ?_
    · intro s _
      rw [pword_end]
      exact ev_step (Ev.now _) (fun k => by simp only [spec_tgPromote.l0]; rw [if_neg (by omega)]; rfl)
    · intro t s ht hs ih
      have c1 : 1 - (m : Int) + (t : Int) < (n : Int) := by omega
      rw [pword_step ht]
      have := tgPromote_l1 h1 h2 h3 h4 h5 hP hlen ht (pword m n (t + 1)) (fun s hs => ih s hs) 0 s (by omega) hs
      exact ev_step this (fun k => by simp only [spec_tgPromote.l0]; rw [if_pos c1]; rfl)
  unfold spec_tgPromote.f
  refine Ev.bind hr ?_
  exact ev_as (H 0 s (by omega) hs) (fun k => by rw [wrap64_id (by omega) (by omega)]; simp)
end
end Go.Proofs.Ytkdddlkhildliaa.B

/-! ### Mways -/
/- In how many ways sets are filled up, told downwards; on ideals it does not matter what is told of other sets. -/
namespace Go.Proofs.Ytkdddlkhildliaa.B
open Go.RowKit Go.Proofs.Ytkdddlkhildliaa.M Go.Proofs.YtkdddlkhildliaaW.PrintWords Go.Proofs.YtkdddlkhildliaaW.PrintLast Go.Proofs.YtkdddlkhildliaaW.PrintMore
attribute [local irreducible] Go.bits shl shr sd
theorem foldFrom_rel {σ τ : Type} (f : σ → Nat → σ) (g : τ → Nat → τ) (R : σ → τ → Prop) (n : Nat) (h : ∀ i a b, i < n → R a b → R (f a i) (g b i)) : ∀ (i : Nat) (a : σ) (b : τ), i ≤ n → R a b → R (foldFrom f i n a) (foldFrom g i n b) := by
  have H : ∀ d i a b, n - i = d → i ≤ n → R a b → R (foldFrom f i n a) (foldFrom g i n b) := by
    intro d
    induction d with
    | zero =>
      intro i a b hd hi hR
      obtain rfl : i = n := by omega
      rw [foldFrom_end, foldFrom_end]; exact hR
    | succ d ih =>
      intro i a b hd hi hR
      rw [foldFrom_step f (show i < n by omega), foldFrom_step g (show i < n by omega)]
      exact ih (i + 1) _ _ (by omega) (by omega) (h i a b (by omega) hR)
  exact fun i a b hi hR => H (n - i) i a b rfl hi hR
def wcan (P : List Nat) (s i : Nat) : Bool := !s.testBit i && decide (sd (P.getD i 0) s = 0)
def wstep (P : List Nat) (s : Nat) (o : List Int) (i : Nat) : List Int := if wcan P s i = true then o.set s (wrap64 (o.getD s 0 + o.getD (s ||| 2 ^ i) 0)) else o
def wrow (P : List Nat) (s : Nat) (o : List Int) : List Int := foldFrom (wstep P s) 0 P.length o
def wrow' (P : List Nat) (s : Nat) (o : List Int) : List Int := if idl P s = true then wrow P s o else o
def wdown (f : Nat → List Int → List Int) : Nat → List Int → List Int
  | 0, o => o
  | s + 1, o => wdown f s (f s o)
theorem set_getD (o : List Int) (i j : Nat) (x : Int) (hi : i < o.length) : (o.set i x).getD j 0 = if i = j then x else o.getD j 0 := by
  rw [List.getD_eq_getElem?_getD, List.getElem?_set]
  by_cases h : i = j
  · subst h; rw [if_pos rfl, if_pos hi, if_pos rfl]; rfl
  · rw [if_neg h, if_neg h, ← List.getD_eq_getElem?_getD]
theorem wstep_length (P : List Nat) (s : Nat) (o : List Int) (i : Nat) : (wstep P s o i).length = o.length := by
  unfold wstep; split <;> simp
theorem wrow_length (P : List Nat) (s : Nat) (o : List Int) : (wrow P s o).length = o.length := by
  unfold wrow
  exact foldFrom_inv (wstep P s) (fun _ o' => o'.length = o.length) P.length (fun i o' _ h => by rw [wstep_length]; exact h) 0 o (by omega) rfl
theorem or_ne {s i : Nat} (h : s.testBit i = false) : s ||| 2 ^ i ≠ s := by
  intro he
  have := congrArg (fun x => x.testBit i) he
  rw [Nat.testBit_or, Nat.testBit_two_pow, h] at this
  simp at this
/-- The value that a row puts at its set. -/
def wval (P : List Nat) (s : Nat) (o : List Int) : Int := foldFrom (fun (a : Int) i => if wcan P s i = true then wrap64 (a + o.getD (s ||| 2 ^ i) 0) else a) 0 P.length (o.getD s 0)
theorem wrow_get (P : List Nat) {s : Nat} {o : List Int} (hs : s < o.length) : (wrow P s o).getD s 0 = wval P s o ∧ ∀ t, t ≠ s → (wrow P s o).getD t 0 = o.getD t 0 := by
  have H := foldFrom_rel (wstep P s) (fun (a : Int) i => if wcan P s i = true then wrap64 (a + o.getD (s ||| 2 ^ i) 0) else a) (fun (o' : List Int) (a : Int) => o'.length = o.length ∧ o'.getD s 0 = a ∧ ∀ t, t ≠ s → o'.getD t 0 = o.getD t 0) P.length ?_ 0 o (o.getD s 0) (by omega) ⟨rfl, rfl, fun _ _ => rfl⟩
  · exact ⟨H.2.1, H.2.2⟩
  · rintro i o' a _ ⟨h1, h2, h3⟩
    unfold wstep
    cases hc : wcan P s i with
    | true =>
      have hb : s.testBit i = false := by
        unfold wcan at hc
        rw [Bool.and_eq_true] at hc
        simpa using hc.1
      simp only [if_true]
      refine ⟨by rw [List.length_set]; exact h1, ?_, fun t ht => ?_⟩
      · rw [set_getD _ _ _ _ (by omega), if_pos rfl, h2, h3 _ (or_ne hb)]
      · rw [set_getD _ _ _ _ (by omega), if_neg (Ne.symm ht)]; exact h3 t ht
    | false =>
      simp only [Bool.false_eq_true, if_false]
      exact ⟨h1, h2, h3⟩
theorem can_idl {P : List Nat} {s i : Nat} (hs : idl P s = true) (hc : wcan P s i = true) : idl P (s ||| 2 ^ i) = true ∧ s < s ||| 2 ^ i := by
  unfold wcan at hc
  rw [Bool.and_eq_true, decide_eq_true_eq] at hc
  have hb : s.testBit i = false := by simpa using hc.1
  refine ⟨?_, ?_⟩
  · rw [idl_iff]
    intro x hx hbx j hj
    rw [Nat.testBit_or, Bool.or_eq_true] at hbx ⊢
    left
    rcases hbx with h | h
    · exact (idl_iff P s).1 hs x hx h j hj
    · rw [Nat.testBit_two_pow, decide_eq_true_eq] at h
      subst h
      exact sd_eq_zero.1 hc.2 j hj
  · have h1 : s ≤ s ||| 2 ^ i := Nat.left_le_or
    have h2 := or_ne hb
    omega
theorem wval_alike {P : List Nat} {s : Nat} {o o' : List Int} (hs : idl P s = true) (h0 : o.getD s 0 = o'.getD s 0) (h : ∀ t, s < t → idl P t = true → o.getD t 0 = o'.getD t 0) : wval P s o = wval P s o' := by
  unfold wval
  rw [h0]
  refine foldFrom_rel _ _ (fun a b => a = b) P.length ?_ 0 _ _ (by omega) rfl
  rintro i a _ _ rfl
  cases hc : wcan P s i with
  | true =>
    simp only [if_true]
    obtain ⟨h1, h2⟩ := can_idl hs hc
    rw [h _ h2 h1]
  | false => rfl
theorem wdown_alike (P : List Nat) (N : Nat) : ∀ (c : Nat) (o o' : List Int), c ≤ N → o.length = N → o'.length = N → (∀ t, c ≤ t → idl P t = true → o.getD t 0 = o'.getD t 0) → (∀ t, t < c → o.getD t 0 = 0 ∧ o'.getD t 0 = 0) →
    ∀ t, idl P t = true → (wdown (wrow P) c o).getD t 0 = (wdown (wrow' P) c o').getD t 0 := by
  intro c
  induction c with
  | zero => intro o o' _ _ _ h _ t ht; exact h t (by omega) ht
  | succ s ih =>
    intro o o' hc h1 h2 h3 h4 t ht
    obtain ⟨g1, g2⟩ := wrow_get P (s := s) (o := o) (by omega)
    obtain ⟨g3, g4⟩ := wrow_get P (s := s) (o := o') (by omega)
    show (wdown (wrow P) s (wrow P s o)).getD t 0 = (wdown (wrow' P) s (wrow' P s o')).getD t 0
    unfold wrow'
    cases hi : idl P s with
    | true =>
      simp only [if_true]
      refine ih _ _ (by omega) (by rw [wrow_length]; exact h1) (by rw [wrow_length]; exact h2) (fun t hct hti => ?_) (fun t htc => ?_) t ht
      · by_cases hts : t = s
        · subst hts
          rw [g1, g3]
          exact wval_alike hi ((h4 t (by omega)).1.trans (h4 t (by omega)).2.symm) (fun x hx hxi => h3 x (by omega) hxi)
        · rw [g2 t hts, g4 t hts]; exact h3 t (by omega) hti
      · rw [g2 t (by omega), g4 t (by omega)]; exact h4 t (by omega)
    | false =>
      simp only [Bool.false_eq_true, if_false]
      refine ih _ _ (by omega) (by rw [wrow_length]; exact h1) h2 (fun t hct hti => ?_) (fun t htc => ?_) t ht
      · have hts : t ≠ s := by rintro rfl; rw [hi] at hti; cases hti
        rw [g2 t hts]; exact h3 t (by omega) hti
      · rw [g2 t (by omega)]; exact h4 t (by omega)
def wstart (P : List Nat) : List Int := (List.replicate (2 ^ P.length) (0 : Int)).set (2 ^ P.length - 1) 1
theorem wstart_length (P : List Nat) : (wstart P).length = 2 ^ P.length := by unfold wstart; simp
theorem counts_alike (P : List Nat) : (wdown (wrow P) (2 ^ P.length - 1) (wstart P)).getD 0 0 = (wdown (wrow' P) (2 ^ P.length - 1) (wstart P)).getD 0 0 := by
  have h1 := Nat.one_le_two_pow (n := P.length)
  refine wdown_alike P (2 ^ P.length) _ _ _ (by omega) (wstart_length P) (wstart_length P) (fun _ _ _ => rfl) (fun t ht => ?_) 0 ?_
  · unfold wstart
    rw [set_getD _ _ _ _ (by rw [List.length_replicate]; omega), if_neg (by omega), List.getD_eq_getElem?_getD, List.getElem?_replicate]
    split <;> exact ⟨rfl, rfl⟩
  · rw [idl_iff]; intro i _ h; rw [Nat.zero_testBit] at h; cases h
theorem wdown_length (f : Nat → List Int → List Int) (hf : ∀ s o, (f s o).length = o.length) : ∀ (c : Nat) (o : List Int), (wdown f c o).length = o.length := by
  intro c
  induction c with
  | zero => intro o; rfl
  | succ s ih => intro o; show (wdown f s (f s o)).length = _; rw [ih, hf]
end Go.Proofs.Ytkdddlkhildliaa.B

/-! ### Morb -/
/- Orbits of a motion that can be undone, on numbers below a bound: plain. -/
namespace Go.Proofs.Ytkdddlkhildliaa.B
open Go.RowKit Go.Proofs.Ytkdddlkhildliaa.M Go.Proofs.YtkdddlkhildliaaW.PrintWords Go.Proofs.YtkdddlkhildliaaW.PrintLast Go.Proofs.YtkdddlkhildliaaW.PrintMore
attribute [local irreducible] Go.bits shl shr sd
theorem nodup_le : ∀ (n : Nat) (l : List Nat), l.Nodup → (∀ x ∈ l, x < n) → l.length ≤ n := by
  intro n
  induction n with
  | zero =>
    intro l _ h
    cases l with
    | nil => exact Nat.le_refl _
    | cons x xs => exact absurd (h x List.mem_cons_self) (by omega)
  | succ n ih =>
    intro l hd h
    by_cases hm : n ∈ l
    · have h1 := ih (l.erase n) (hd.erase n) (fun x hx => by
        have h2 := (hd.mem_erase_iff).1 hx
        have := h x h2.2
        omega)
      rw [List.length_erase_of_mem hm] at h1
      omega
    · have := ih l hd (fun x hx => by
        have h2 := h x hx
        have : x ≠ n := by rintro rfl; exact hm hx
        omega)
      omega
def iter (f : Nat → Nat) : Nat → Nat → Nat
  | 0, s => s
  | i + 1, s => f (iter f i s)
structure Motion (f : Nat → Nat) (N : Nat) (S : Nat → Prop) : Prop where
  lt : ∀ s, S s → s < N
  keeps : ∀ s, S s → S (f s)
  inj : ∀ s t, S s → S t → f s = f t → s = t
section
variable {f : Nat → Nat} {N : Nat} {S : Nat → Prop} (hf : Motion f N S)
include hf
theorem iter_in {s : Nat} (hs : S s) : ∀ i, S (iter f i s)
  | 0 => hs
  | i + 1 => hf.keeps _ (iter_in hs i)
theorem iter_cancel {s : Nat} (hs : S s) : ∀ i d, iter f (i + d) s = iter f i s → iter f d s = s
  | 0, d, h => by rw [Nat.zero_add] at h; exact h
  | i + 1, d, h => by
    rw [show i + 1 + d = (i + d) + 1 by omega] at h
    exact iter_cancel hs i d (hf.inj _ _ (iter_in hf hs _) (iter_in hf hs _) h)
theorem exists_per {s : Nat} (hs : S s) : ∃ p, 1 ≤ p ∧ p ≤ N ∧ iter f p s = s := by
  apply Classical.byContradiction
  intro hno
  have hd : ((List.range (N + 1)).map (fun i => iter f i s)).Nodup := by
    rw [List.Nodup, List.pairwise_map]
    refine List.Pairwise.imp_of_mem ?_ List.pairwise_lt_range
    intro a b ha hb hab he
    rw [List.mem_range] at ha hb
    refine hno ⟨b - a, by omega, by omega, iter_cancel hf hs a (b - a) ?_⟩
    rw [show a + (b - a) = b by omega]
    exact he.symm
  have := nodup_le N _ hd (fun x hx => by
    rw [List.mem_map] at hx
    obtain ⟨i, _, rfl⟩ := hx
    exact hf.lt _ (iter_in hf hs i))
  rw [List.length_map, List.length_range] at this
  omega
end
def search (f : Nat → Nat) (s : Nat) : Nat → Nat → Nat
  | 0, i => i
  | k + 1, i => if iter f i s = s then i else search f s k (i + 1)
theorem search_spec (f : Nat → Nat) (s : Nat) : ∀ (k i : Nat), i ≤ search f s k i ∧ search f s k i ≤ i + k ∧ (∀ j, i ≤ j → j < search f s k i → iter f j s ≠ s) ∧ (search f s k i = i + k ∨ iter f (search f s k i) s = s)
  | 0, i => ⟨Nat.le_refl _, by simp [search], fun j h1 h2 => absurd h2 (by simp [search]; omega), .inl rfl⟩
  | k + 1, i => by
    unfold search
    by_cases h : iter f i s = s
    · rw [if_pos h]
      exact ⟨Nat.le_refl _, by omega, fun j h1 h2 => absurd h2 (by omega), .inr h⟩
    · rw [if_neg h]
      obtain ⟨h1, h2, h3, h4⟩ := search_spec f s k (i + 1)
      refine ⟨by omega, by omega, fun j h5 h6 => ?_, h4.imp (fun h => by omega) id⟩
      by_cases hj : j = i
      · rw [hj]; exact h
      · exact h3 j (by omega) h6
def per (f : Nat → Nat) (N s : Nat) : Nat := search f s N 1
/-- An orbit. -/
def orb (f : Nat → Nat) (N s : Nat) : List Nat := (List.range (per f N s)).map (fun i => iter f i s)
def orbTo (f : Nat → Nat) (s i : Nat) : List Nat := (List.range i).map (fun i => iter f i s)
theorem orbTo_succ (f : Nat → Nat) (s i : Nat) : orbTo f s (i + 1) = orbTo f s i ++ [iter f i s] := by unfold orbTo; rw [List.range_succ, List.map_append]; rfl
theorem orbTo_length (f : Nat → Nat) (s i : Nat) : (orbTo f s i).length = i := by unfold orbTo; simp
theorem mem_orbTo {f : Nat → Nat} {s i x : Nat} : x ∈ orbTo f s i ↔ ∃ j, j < i ∧ iter f j s = x := by
  unfold orbTo
  rw [List.mem_map]
  constructor
  · rintro ⟨j, h1, h2⟩; exact ⟨j, List.mem_range.1 h1, h2⟩
  · rintro ⟨j, h1, h2⟩; exact ⟨j, List.mem_range.2 h1, h2⟩
section
variable {f : Nat → Nat} {N : Nat} {S : Nat → Prop} (hf : Motion f N S)
include hf
theorem per_spec {s : Nat} (hs : S s) : 1 ≤ per f N s ∧ per f N s ≤ N ∧ iter f (per f N s) s = s ∧ ∀ j, 1 ≤ j → j < per f N s → iter f j s ≠ s := by
  obtain ⟨p, h1, h2, h3⟩ := exists_per hf hs
  obtain ⟨k1, k2, k3, k4⟩ := search_spec f s N 1
  have hle : per f N s ≤ p := by
    rcases Nat.lt_or_ge p (per f N s) with h | h
    · exact absurd h3 (k3 p h1 h)
    · exact h
  refine ⟨k1, by omega, ?_, k3⟩
  rcases k4 with k4 | k4
  · have : per f N s = 1 + N := k4
    omega
  · exact k4
theorem iter_ne {s : Nat} (hs : S s) {i j : Nat} (hij : i < j) (hj : j < per f N s) : iter f i s ≠ iter f j s := by
  intro h
  refine (per_spec hf hs).2.2.2 (j - i) (by omega) (by omega) (iter_cancel hf hs i (j - i) ?_)
  rw [show i + (j - i) = j by omega]
  exact h.symm
theorem orb_length {s : Nat} (hs : S s) : 1 ≤ (orb f N s).length ∧ (orb f N s).length ≤ N := by
  unfold orb
  rw [List.length_map, List.length_range]
  exact ⟨(per_spec hf hs).1, (per_spec hf hs).2.1⟩
theorem mem_orb {s x : Nat} (hs : S s) (hx : x ∈ orb f N s) : S x := by
  obtain ⟨j, _, rfl⟩ := mem_orbTo.1 hx
  exact iter_in hf hs j
/-- A set that the motion keeps. -/
def Closed (f : Nat → Nat) (S : Nat → Prop) (m : List Nat) : Prop := ∀ x ∈ m, S x ∧ f x ∈ m
omit hf in
theorem closed_iter {m : List Nat} (hm : Closed f S m) {x : Nat} (hx : x ∈ m) : ∀ i, iter f i x ∈ m
  | 0 => hx
  | i + 1 => (hm _ (closed_iter hm hx i)).2
omit hf in
theorem iter_add (s : Nat) : ∀ i j, iter f (i + j) s = iter f i (iter f j s)
  | 0, j => by rw [Nat.zero_add]; rfl
  | i + 1, j => by rw [show i + 1 + j = (i + j) + 1 by omega]; exact congrArg f (iter_add s i j)
theorem out_iter {m : List Nat} (hm : Closed f S m) {s : Nat} (hs : S s) (hn : s ∉ m) {i : Nat} (hi : i ≤ per f N s) : iter f i s ∉ m := by
  intro h
  apply hn
  have h1 := closed_iter hm h (per f N s - i)
  rw [← iter_add, show per f N s - i + i = per f N s by omega, (per_spec hf hs).2.2.1] at h1
  exact h1
theorem out_orb {m : List Nat} (hm : Closed f S m) {s : Nat} (hs : S s) (hn : s ∉ m) {i : Nat} (hi : i < per f N s) : iter f i s ∉ m ++ orbTo f s i := by
  rw [List.mem_append]
  rintro (h | h)
  · exact out_iter hf hm hs hn (by omega) h
  · obtain ⟨j, h1, h2⟩ := mem_orbTo.1 h
    exact iter_ne hf hs h1 hi h2
theorem back_orb {m : List Nat} {s : Nat} (hs : S s) : iter f (per f N s) s ∈ m ++ orbTo f s (per f N s) := by
  rw [(per_spec hf hs).2.2.1, List.mem_append]
  exact .inr (mem_orbTo.2 ⟨0, (per_spec hf hs).1, rfl⟩)
theorem closed_orb {m : List Nat} (hm : Closed f S m) {s : Nat} (hs : S s) : Closed f S (m ++ orb f N s) := by
  intro x hx
  rw [List.mem_append] at hx
  rcases hx with h | h
  · exact ⟨(hm x h).1, List.mem_append.2 (.inl (hm x h).2)⟩
  · refine ⟨mem_orb hf hs h, List.mem_append.2 (.inr ?_)⟩
    obtain ⟨j, h1, rfl⟩ := mem_orbTo.1 h
    show iter f (j + 1) s ∈ orb f N s
    by_cases hj : j + 1 < per f N s
    · exact mem_orbTo.2 ⟨j + 1, hj, rfl⟩
    · rw [show j + 1 = per f N s by omega, (per_spec hf hs).2.2.1]
      exact mem_orbTo.2 ⟨0, (per_spec hf hs).1, rfl⟩
end
/-- All orbits of a list's numbers, each from the first one that is in none before. -/
def cyc (f : Nat → Nat) (N : Nat) : List Nat → List Nat → List (List Nat)
  | _, [] => []
  | m, s :: l => if s ∈ m then cyc f N m l else orb f N s :: cyc f N (m ++ orb f N s) l
theorem cyc_mem {f : Nat → Nat} {N : Nat} {S : Nat → Prop} : ∀ (l m : List Nat), (∀ s ∈ l, S s) → ∀ o ∈ cyc f N m l, ∃ s, S s ∧ o = orb f N s
  | [], _, _, o, h => by cases h
  | s :: l, m, hl, o, h => by
    unfold cyc at h
    split at h
    · exact cyc_mem l m (fun x hx => hl x (List.mem_cons_of_mem _ hx)) o h
    · rcases List.mem_cons.1 h with h | h
      · exact ⟨s, hl s List.mem_cons_self, h⟩
      · exact cyc_mem l _ (fun x hx => hl x (List.mem_cons_of_mem _ hx)) o h
theorem cyc_length (f : Nat → Nat) (N : Nat) : ∀ (l m : List Nat), (cyc f N m l).length ≤ l.length
  | [], _ => Nat.le_refl _
  | s :: l, m => by
    unfold cyc
    split
    · have := cyc_length f N l m
      rw [List.length_cons]; omega
    · have := cyc_length f N l (m ++ orb f N s)
      rw [List.length_cons, List.length_cons]; omega
end Go.Proofs.Ytkdddlkhildliaa.B

/-! ### Mseen -/
/- What has been seen, as a row of yes and no: plain. -/
namespace Go.Proofs.Ytkdddlkhildliaa.B
open Go.RowKit Go.Proofs.Ytkdddlkhildliaa.M Go.Proofs.YtkdddlkhildliaaW.PrintWords Go.Proofs.YtkdddlkhildliaaW.PrintLast Go.Proofs.YtkdddlkhildliaaW.PrintMore
attribute [local irreducible] Go.bits shl shr sd
def Seen (N : Nat) (b : List Bool) (m : List Nat) : Prop := b.length = N ∧ ∀ t, t < N → b.getD t false = decide (t ∈ m)
theorem rdOf_nat (b : List Bool) (t : Nat) : rdOf false b (t : Int) = b.getD t false := by unfold rdOf; rw [Int.toNat_natCast]
theorem seen_none (N : Nat) : Seen N (List.replicate N false) [] := by
  refine ⟨by simp, fun t ht => ?_⟩
  rw [List.getD_eq_getElem?_getD, List.getElem?_replicate, if_pos ht]
  simp
theorem seen_put {N : Nat} {b : List Bool} {m : List Nat} (h : Seen N b m) {x : Nat} (hx : x < N) : Seen N (b.set x true) (m ++ [x]) := by
  obtain ⟨h1, h2⟩ := h
  refine ⟨by rw [List.length_set]; exact h1, fun t ht => ?_⟩
  rw [List.getD_eq_getElem?_getD, List.getElem?_set]
  by_cases he : x = t
  · subst he
    rw [if_pos rfl, if_pos (by omega), Option.getD_some]
    exact (decide_eq_true (by simp)).symm
  · rw [if_neg he, ← List.getD_eq_getElem?_getD, h2 t ht, decide_eq_decide, List.mem_append, List.mem_singleton]
    exact ⟨.inl, fun h => h.elim id (fun h => absurd h.symm he)⟩
/-- How long lists are. -/
def lens (L : List (List Nat)) : List Int := L.map (fun o => (o.length : Int))
theorem lens_cast (L : List (List Nat)) : (L.map cast).map (fun o => (o.length : Int)) = lens L := by
  unfold lens
  rw [List.map_map]
  congr 1
  funext o
  simp [cast]
theorem tog_tog {P : List Nat} {s e : Nat} (hs : idl P s = true) : tog P (tog P s e) e = s := by
  have hx : s ^^^ 2 ^ e ^^^ 2 ^ e = s := by rw [Nat.xor_assoc, Nat.xor_self, Nat.xor_zero]
  cases h : idl P (s ^^^ 2 ^ e) with
  | true =>
    have h1 : tog P s e = s ^^^ 2 ^ e := by unfold tog; rw [h, if_pos rfl]
    rw [h1]
    unfold tog
    rw [hx, hs, if_pos rfl]
  | false =>
    have h1 : tog P s e = s := by unfold tog; rw [h, if_neg (by decide)]
    rw [h1, h1]
end Go.Proofs.Ytkdddlkhildliaa.B

/-! ### Mwmot -/
/- A word of toggles is a motion of the ideals that can be undone: plain. -/
namespace Go.Proofs.Ytkdddlkhildliaa.B
open Go.RowKit Go.Proofs.Ytkdddlkhildliaa.M Go.Proofs.YtkdddlkhildliaaW.PrintWords Go.Proofs.YtkdddlkhildliaaW.PrintLast Go.Proofs.YtkdddlkhildliaaW.PrintMore
attribute [local irreducible] Go.bits shl shr sd
def isId (P : List Nat) (s : Nat) : Prop := s < 2 ^ P.length ∧ idl P s = true
def wmot (P : List Nat) (o : List Int) (s : Nat) : Nat := togs P s o
theorem togs_inj {P : List Nat} : ∀ (o : List Int) (s t : Nat), (∀ e ∈ o, e.toNat < P.length) → isId P s → isId P t → togs P s o = togs P t o → s = t
  | [], _, _, _, _, _, h => h
  | e :: es, s, t, hr, hs, ht, h => by
    have he := hr e List.mem_cons_self
    have h1 := togs_inj es (tog P s e.toNat) (tog P t e.toNat) (fun x hx => hr x (List.mem_cons_of_mem _ hx)) ⟨tog_lt hs.1 he, tog_idl hs.2⟩ ⟨tog_lt ht.1 he, tog_idl ht.2⟩ h
    rw [← tog_tog (e := e.toNat) hs.2, h1, tog_tog ht.2]
theorem word_motion {P : List Nat} (o : List Int) (hr : rangeB ((P.length : Int) - 1) o = true) : Motion (wmot P o) (2 ^ P.length) (isId P) := by
  have hr' : ∀ e ∈ o, e.toNat < P.length := fun e he => range_mem hr he
  exact ⟨fun _ h => h.1, fun s h => ⟨(togs_ok o s hr' h.1).1, (togs_ok o s hr' h.1).2 h.2⟩, fun s t hs ht h => togs_inj o s t hr' hs ht h⟩
/-- All cycles of a word on the ideals. -/
def wcyc (P : List Nat) (o : List Int) (L : List Nat) : List (List Nat) := cyc (wmot P o) (2 ^ P.length) [] L
end Go.Proofs.Ytkdddlkhildliaa.B

/-! ### Sobp -/
/- Orbits of promotion, as the reference tells them. -/
namespace Go.Proofs.Ytkdddlkhildliaa.B
open Go.RowKit Go.Proofs.Ytkdddlkhildliaa.M Go.Proofs.YtkdddlkhildliaaW.PrintWords Go.Proofs.YtkdddlkhildliaaW.PrintLast Go.Proofs.YtkdddlkhildliaaW.PrintMore
attribute [local irreducible] Go.bits shl shr sd
theorem word9_range {P : List Nat} {m n : Nat} (hlen : P.length = m * n) : rangeB ((P.length : Int) - 1) (pword m n 0) = true := by
  unfold rangeB
  rw [List.all_eq_true]
  intro e he
  have := pword_range e he
  rw [decide_eq_true_eq, hlen]
  omega
theorem obPromotion_ev {m n : Nat} (h1 : 1 ≤ m) (h2 : m ≤ 10) (h3 : 1 ≤ n) (h4 : n ≤ 10) (h5 : m * n ≤ 10) {l : List Int} {P : List Nat} (hP : Good l P) (hlen : P.length = m * n) (hR : Ev (fun k => spec_poRectangle.f k (m : Int) (n : Int)) l) {s : Nat} (hs : isId P s) : Ev (fun k => spec_obPromotion.f k (m : Int) (n : Int) (s : Int)) (cast (orb (wmot P (pword m n 0)) (2 ^ P.length) s)) := by
  have hn := hP.n10
  have h24 : 2 ^ P.length ≤ 1024 := two_pow_le (j := 10) hn
  have hm := word_motion (P := P) (pword m n 0) (word9_range hlen)
  obtain ⟨p1, p2, p3, p4⟩ := per_spec hm hs
  have H : ∀ d i, per (wmot P (pword m n 0)) (2 ^ P.length) s - i = d → 1 ≤ i → i ≤ per (wmot P (pword m n 0)) (2 ^ P.length) s → Ev (fun k => spec_obPromotion.l0 k (m : Int) (n : Int) (s : Int) (cast (orbTo (wmot P (pword m n 0)) s i)) ((iter (wmot P (pword m n 0)) i s : Nat) : Int)) (cast (orb (wmot P (pword m n 0)) (2 ^ P.length) s)) := by
    intro d
    induction d with
    | zero =>
      intro i hd g1 g2
      have hi : i = per (wmot P (pword m n 0)) (2 ^ P.length) s := by omega
      subst hi
      rw [p3]
      exact ev_step (Ev.now _) (fun k => by simp only [spec_obPromotion.l0]; rw [if_pos trivial]; rfl)
    | succ d ih =>
      intro i hd g1 g2
      have hne := p4 i g1 (by omega)
      have hin := iter_in hm hs i
      have hlq : (cast (orbTo (wmot P (pword m n 0)) s i)).length < 17592186044416 := by unfold cast; rw [List.length_map, orbTo_length]; omega
      have happ : cast (orbTo (wmot P (pword m n 0)) s i) ++ [((iter (wmot P (pword m n 0)) i s : Nat) : Int)] = cast (orbTo (wmot P (pword m n 0)) s (i + 1)) := by rw [orbTo_succ]; unfold cast; rw [List.map_append]; rfl
      refine ev_stepb (tgPromote_ev h1 h2 h3 h4 h5 hP hlen hR hin.1) ?_ (fun k => by simp only [spec_obPromotion.l0]; rw [if_neg (by omega), if_pos hlq, happ])
      exact ih (i + 1) (by omega) (by omega) (by omega)
  unfold spec_obPromotion.f
  refine Ev.bind (tgPromote_ev h1 h2 h3 h4 h5 hP hlen hR hs.1) ?_
  exact H _ 1 rfl (by omega) p1
end Go.Proofs.Ytkdddlkhildliaa.B

/-! ### S9 -/
/- Sides of rectangles of at most nine elements: both guards. -/
namespace Go.Proofs.Ytkdddlkhildliaa.B
open Go.RowKit Go.Proofs.Ytkdddlkhildliaa.M Go.Proofs.YtkdddlkhildliaaW.PrintWords Go.Proofs.YtkdddlkhildliaaW.PrintLast Go.Proofs.YtkdddlkhildliaaW.PrintMore
attribute [local irreducible] Go.bits shl shr sd
def sides9 (a b : Int) : Bool := decide (1 ≤ a ∧ 1 ≤ b ∧ a ≤ 9 ∧ b ≤ 9 ∧ a * b ≤ 9)
theorem obSides_is (a b : Int) : spec_obSides.f a b = some (sides9 a b) := by
  unfold spec_obSides.f spec_poSides.f sides9
  rw [l1In_is, l1In_is]
  by_cases ha : 1 ≤ a ∧ a ≤ 10
  · rw [decide_eq_true ha, Option.bind_some, if_pos rfl]
    by_cases hb : 1 ≤ b ∧ b ≤ 10
    · rw [decide_eq_true hb, Option.bind_some, if_pos rfl, Option.bind_some]
      have hm := mul_bounds (a := a) (b := b) (m := 10) (n := 10) (by omega) ha.2 (by omega) hb.2
      have h9 : a * b ≤ 9 → a ≤ 9 ∧ b ≤ 9 := fun h => by
        have k1 : a * 1 ≤ a * b := Int.mul_le_mul_of_nonneg_left hb.1 (by omega)
        have k2 : 1 * b ≤ a * b := Int.mul_le_mul_of_nonneg_right ha.1 (by omega)
        omega
      rw [wrap64_id (by omega) (by omega)]
      by_cases h : a * b ≤ 10
      · rw [if_pos (decide_eq_true h)]
        congr 1
        rw [decide_eq_decide]
        constructor
        · intro h'; have := h9 h'; omega
        · omega
      · rw [decide_eq_false h, if_neg (by decide)]
        congr 1
        symm
        rw [decide_eq_false_iff_not]
        omega
    · rw [decide_eq_false hb, Option.bind_some, if_neg (by decide), Option.bind_some, if_neg (by decide), decide_eq_false (by omega)]
  · rw [decide_eq_false ha, Option.bind_some, if_neg (by decide), Option.bind_some, if_neg (by decide), decide_eq_false (by omega)]
theorem areSides9_is (a b : Int) : impl_areSides.f a b 9 = some (sides9 a b) := by
  unfold impl_areSides.f sides9
  rw [within_is, within_is]
  by_cases ha : 1 ≤ a ∧ a ≤ 9
  · rw [decide_eq_true ha, Option.bind_some, if_pos rfl]
    by_cases hb : 1 ≤ b ∧ b ≤ 9
    · rw [decide_eq_true hb, Option.bind_some, if_pos rfl]
      have hm := mul_bounds (a := a) (b := b) (m := 9) (n := 9) (by omega) ha.2 (by omega) hb.2
      rw [wrap64_id (by omega) (by omega)]
      congr 1
      rw [decide_eq_decide]
      omega
    · rw [decide_eq_false hb, Option.bind_some, if_neg (by decide), decide_eq_false (by omega)]
  · rw [decide_eq_false ha, Option.bind_some, if_neg (by decide), decide_eq_false (by omega)]
theorem sides9_nat {a b : Int} (h : sides9 a b = true) : ∃ m n : Nat, a = (m : Int) ∧ b = (n : Int) ∧ 1 ≤ m ∧ m ≤ 10 ∧ 1 ≤ n ∧ n ≤ 10 ∧ m * n ≤ 10 ∧ m * n ≤ 9 ∧ m ≤ 9 ∧ n ≤ 9 := by
  unfold sides9 at h
  rw [decide_eq_true_eq] at h
  obtain ⟨m, rfl⟩ : ∃ m : Nat, a = (m : Int) := ⟨a.toNat, by omega⟩
  obtain ⟨n, rfl⟩ : ∃ n : Nat, b = (n : Int) := ⟨b.toNat, by omega⟩
  have h5 := h.2.2.2.2
  rw [← Int.natCast_mul] at h5
  exact ⟨m, n, rfl, rfl, by omega, by omega, by omega, by omega, by omega, by omega, by omega, by omega⟩
end Go.Proofs.Ytkdddlkhildliaa.B

/-! ### Sclose -/
/- The least ideal with a set, as the program makes it. -/
namespace Go.Proofs.Ytkdddlkhildliaa.B
open Go.RowKit Go.Proofs.Ytkdddlkhildliaa.M Go.Proofs.YtkdddlkhildliaaW.PrintWords Go.Proofs.YtkdddlkhildliaaW.PrintLast Go.Proofs.YtkdddlkhildliaaW.PrintMore
attribute [local irreducible] Go.bits shl shr sd
theorem close_l0 {l : List Int} {P : List Nat} (hP : Good l P) {s : Nat} (hs : s < 2 ^ P.length) : ∀ (e : Nat) (st : Nat), e ≤ (items s).length → st < 2 ^ P.length →
    Ev (fun k => impl_Poset_close.l0 k (st : Int) (cast (items s)) ((cast (items s)).length : Int) (e : Int) l) ((((items s).drop e).foldl (fun o i => o ||| P.getD i 0) st : Nat) : Int) := by
  have hn := hP.n10
  have hlen : (items s).length ≤ 10 := by unfold items; exact Nat.le_trans (List.length_filter_le _ _) (by simp)
  refine ev_down (fun k (st : Nat) e => impl_Poset_close.l0 k (st : Int) (cast (items s)) ((cast (items s)).length : Int) e l) (fun e st => ((((items s).drop e).foldl (fun o i => o ||| P.getD i 0) st : Nat) : Int)) (items s).length (fun _ st => st < 2 ^ P.length) ?_ ?_
  · intro st _
    rw [List.drop_length, List.foldl_nil]
    exact ev_step (Ev.now _) (fun k => by simp only [impl_Poset_close.l0]; rw [if_neg (by rw [cast_length]; omega)])
  · intro e st he hst ih
    obtain ⟨j, hj⟩ : ∃ j, (items s).getD e 0 = j := ⟨_, rfl⟩
    have hmem : j ∈ items s := by rw [← hj, List.getD_eq_getElem?_getD, List.getElem?_eq_getElem he, Option.getD_some]; exact List.getElem_mem he
    have hjn : j < P.length := bit_lt hs (mem_items.1 hmem).2
    have hl := hP.length
    have c1 : (e : Int) < ((cast (items s)).length : Int) := by rw [cast_length]; omega
    have c2 : 0 ≤ (e : Int) := by omega
    have c4 : 0 ≤ (j : Int) := by omega
    have c5 : (j : Int) < (l.length : Int) := by omega
    have hw : wrap64 ((e : Int) + 1) = (e : Int) + 1 := wrap64_id (by omega) (by omega)
    have ho := or_nat (p63 hst (by omega)) (hP.lt63 j)
    rw [drop_step (items s) 0 he, hj, List.foldl_cons]
    refine ev_step (ih (st ||| P.getD j 0) (Nat.or_lt_two_pow hst (hP.ltn j))) (fun k => ?_)
    simp only [impl_Poset_close.l0]
    rw [if_pos c1, if_pos c2, if_pos c1, rd_cast, hj, if_pos c4, if_pos c5, hw]
    conv => lhs; rw [hP.eq, rd_cast]
    rw [ho, ← hP.eq]
theorem close_ev {l : List Int} {P : List Nat} (hP : Good l P) {s : Nat} (hs : s < 2 ^ P.length) : Ev (fun k => impl_Poset_close.f k l (s : Int)) ((dn P s : Nat) : Int) := by
  have hn := hP.n10
  unfold impl_Poset_close.f
  refine Ev.bind (items_ev (p63 hs (by omega))) ?_
  have := close_l0 hP hs 0 s (by omega) hs
  rw [List.drop_zero, fold_items _ hs (by omega)] at this
  exact this
end Go.Proofs.Ytkdddlkhildliaa.B

/-! ### Stoi -/
/- A set toggled at an element, as the program does it. -/
namespace Go.Proofs.Ytkdddlkhildliaa.B
open Go.RowKit Go.Proofs.Ytkdddlkhildliaa.M Go.Proofs.YtkdddlkhildliaaW.PrintWords Go.Proofs.YtkdddlkhildliaaW.PrintLast Go.Proofs.YtkdddlkhildliaaW.PrintMore
attribute [local irreducible] Go.bits shl shr sd
theorem toggle_ev {l : List Int} {P : List Nat} (hP : Good l P) {s e : Nat} (hs : s < 2 ^ P.length) (he : e < P.length) : Ev (fun k => impl_Poset_toggle.f k l (s : Int) (e : Int)) ((tog P s e : Nat) : Int) := by
  have hn := hP.n10
  have h2 : 2 ^ e < 2 ^ P.length := Nat.pow_lt_pow_right (by decide) he
  have hx := Nat.xor_lt_two_pow hs h2
  have hxor : Go.bits .xor .i64 (s : Int) (shl .i64 1 (e : Int)) = ((s ^^^ 2 ^ e : Nat) : Int) := by rw [shl_one (by omega), xor_nat (p63 hs (by omega)) (p63 h2 (by omega))]
  unfold impl_Poset_toggle.f
  refine ev_bind (close_ev hP hx) ?_ (fun k => by rw [if_pos (by omega), hxor])
  by_cases hi : dn P (s ^^^ 2 ^ e) = s ^^^ 2 ^ e
  · have ht : tog P s e = s ^^^ 2 ^ e := by unfold tog; rw [idl_dn, decide_eq_true hi, if_pos rfl]
    rw [ht]
    exact ev_as (Ev.now _) (fun k => by rw [if_pos (by omega)])
  · have ht : tog P s e = s := by unfold tog; rw [idl_dn, decide_eq_false hi, if_neg (by decide)]
    rw [ht]
    exact ev_as (Ev.now _) (fun k => by rw [if_neg (by omega)])
end Go.Proofs.Ytkdddlkhildliaa.B

/-! ### Swrt -/
/- Words of elements: an ideal toggled at its elements, by the program. -/
namespace Go.Proofs.Ytkdddlkhildliaa.B
open Go.RowKit Go.Proofs.Ytkdddlkhildliaa.M Go.Proofs.YtkdddlkhildliaaW.PrintWords Go.Proofs.YtkdddlkhildliaaW.PrintLast Go.Proofs.YtkdddlkhildliaaW.PrintMore
attribute [local irreducible] Go.bits shl shr sd
theorem toggles_ev {l : List Int} {P : List Nat} (hP : Good l P) (o : List Int) (ho : o.length ≤ 1048576) (hr : rangeB ((P.length : Int) - 1) o = true) {s : Nat} (hs : s < 2 ^ P.length) : Ev (fun k => impl_Poset_toggles.f k l (s : Int) o) ((togs P s o : Nat) : Int) := by
  have H : ∀ (i : Nat) (st : Nat), i ≤ o.length → st < 2 ^ P.length → Ev (fun k => impl_Poset_toggles.l0 k (st : Int) o (o.length : Int) (i : Int) l) ((togs P st (o.drop i) : Nat) : Int) := by
    refine ev_down (fun k (st : Nat) i => impl_Poset_toggles.l0 k (st : Int) o (o.length : Int) i l) (fun i st => ((togs P st (o.drop i) : Nat) : Int)) o.length (fun _ st => st < 2 ^ P.length) ?_ ?_
    · intro st _
      rw [List.drop_length]
      exact ev_step (Ev.now _) (fun k => by simp only [impl_Poset_toggles.l0]; rw [if_neg (by omega)]; rfl)
    · intro i st hi hst ih
      obtain ⟨e, he, hlt⟩ := range_at hr hi
      have c1 : (i : Int) < (o.length : Int) := by omega
      have c2 : 0 ≤ (i : Int) := by omega
      have hw : wrap64 ((i : Int) + 1) = (i : Int) + 1 := wrap64_id (by omega) (by omega)
      rw [drop_step o 0 hi, he]
      refine ev_stepb (toggle_ev hP hst hlt) ?_ (fun k => by simp only [impl_Poset_toggles.l0]; rw [if_pos c1, if_pos c2, if_pos c1, rd_nat, he])
      exact ev_as (ih _ (tog_lt hst hlt)) (fun k => by rw [hw]; rfl)
  unfold impl_Poset_toggles.f
  have := H 0 s (by omega) hs
  rwa [List.drop_zero] at this
end Go.Proofs.Ytkdddlkhildliaa.B

/-! ### Scyp -/
/- Cycles of promotion, as the program gathers them. -/
namespace Go.Proofs.Ytkdddlkhildliaa.B
open Go.RowKit Go.Proofs.Ytkdddlkhildliaa.M Go.Proofs.YtkdddlkhildliaaW.PrintWords Go.Proofs.YtkdddlkhildliaaW.PrintLast Go.Proofs.YtkdddlkhildliaaW.PrintMore
attribute [local irreducible] Go.bits shl shr sd
theorem promC_ev {l : List Int} {P : List Nat} (hP : Good l P) (o : List Int) (ho : o.length ≤ 1048576) (hr : rangeB ((P.length : Int) - 1) o = true) {s : Nat} (hs : s < 2 ^ P.length) : Ev (fun k => impl_promote_1_c.f k (s : Int) l o) ((wmot P o s : Nat) : Int) := by
  unfold impl_promote_1_c.f wmot
  exact Ev.bind (toggles_ev hP o ho hr hs) (Ev.now _)
theorem scyp_has (m : List Nat) (x : Nat) : mhas (cast m) (x : Int) = decide (x ∈ m) := by
  unfold mhas cast
  rw [decide_eq_decide, List.mem_map]
  exact ⟨fun ⟨y, h1, h2⟩ => by rw [← Int.ofNat_inj.1 h2]; exact h1, fun h => ⟨x, h, rfl⟩⟩
theorem scyp_put (m : List Nat) (x : Nat) (h : x ∉ m) : mput (cast m) (x : Int) = cast (m ++ [x]) := by
  have h1 := scyp_has m x
  rw [decide_eq_false h] at h1
  unfold mhas at h1
  unfold mput
  rw [if_neg (by simpa using h1)]
  unfold cast
  rw [List.map_append]
  rfl
theorem scyp_l1 {l : List Int} {P : List Nat} (hP : Good l P) (o : List Int) (ho : o.length ≤ 1048576) (hr : rangeB ((P.length : Int) - 1) o = true) (L : List Nat) (hL : L.length ≤ 1024) {i : Nat} (hi : i < L.length) {m : List Nat} (hm : Closed (wmot P o) (isId P) m) {s : Nat} (hs : (isId P) s) (hns : s ∉ m) (w : List (List Int)) (hw : w.length ≤ 1024) (r : List (List Int))
    (hnext : Ev (fun k => impl_cycles_int_at_impl_promote_1.l0 k (w ++ [cast (orb (wmot P o) (2 ^ P.length) s)]) (cast L) ((cast L).length : Int) ((i : Int) + 1) l o (cast (m ++ orb (wmot P o) (2 ^ P.length) s))) r) :
    ∀ d j, per (wmot P o) (2 ^ P.length) s - j = d → j ≤ per (wmot P o) (2 ^ P.length) s → Ev (fun k => impl_cycles_int_at_impl_promote_1.l1 k w (cast (orbTo (wmot P o) s j)) ((iter (wmot P o) j s : Nat) : Int) (cast L) ((cast L).length : Int) (i : Int) l o (cast (m ++ orbTo (wmot P o) s j))) r := by
  have hn := hP.n10
  have h24 : 2 ^ P.length ≤ 1024 := two_pow_le (j := 10) hn
  have hmo := word_motion o hr
  obtain ⟨p1, p2, p3, p4⟩ := per_spec hmo hs
  have b1 : -9223372036854775808 ≤ (i : Int) + 1 := by omega
  have b2 : (i : Int) + 1 ≤ 9223372036854775807 := by omega
  have b3 : w.length < 5864062014805 := by omega
  intro d
  induction d with
  | zero =>
    intro j hd hj
    obtain rfl : j = per (wmot P o) (2 ^ P.length) s := by omega
    have hh : mhas (cast (m ++ orbTo (wmot P o) s (per (wmot P o) (2 ^ P.length) s))) ((iter (wmot P o) (per (wmot P o) (2 ^ P.length) s) s : Nat) : Int) = true := by rw [scyp_has]; exact decide_eq_true (back_orb hmo hs)
    exact ev_step hnext (fun k => by simp only [impl_cycles_int_at_impl_promote_1.l1]; rw [if_pos hh, if_pos b3, wrap64_id b1 b2]; rfl)
  | succ d ih =>
    intro j hd hj
    have hin := iter_in hmo hs j
    have hno := out_orb hmo hm hs hns (show j < per (wmot P o) (2 ^ P.length) s by omega)
    have hh : ¬ mhas (cast (m ++ orbTo (wmot P o) s j)) ((iter (wmot P o) j s : Nat) : Int) = true := by rw [scyp_has, decide_eq_true_eq]; exact hno
    have hlen : (cast (orbTo (wmot P o) s j)).length < 17592186044416 := by unfold cast; rw [List.length_map, orbTo_length]; omega
    have happ : cast (orbTo (wmot P o) s j) ++ [((iter (wmot P o) j s : Nat) : Int)] = cast (orbTo (wmot P o) s (j + 1)) := by rw [orbTo_succ]; unfold cast; rw [List.map_append]; rfl
    have hput : mput (cast (m ++ orbTo (wmot P o) s j)) ((iter (wmot P o) j s : Nat) : Int) = cast (m ++ orbTo (wmot P o) s (j + 1)) := by rw [scyp_put _ _ hno, orbTo_succ, List.append_assoc]
    refine ev_stepb (promC_ev hP o ho hr (And.left hin)) ?_ (fun k => by simp only [impl_cycles_int_at_impl_promote_1.l1]; rw [if_neg hh, if_pos hlen, happ, hput])
    exact ih (j + 1) (by omega) (by omega)
theorem scyp_ev {l : List Int} {P : List Nat} (hP : Good l P) (o : List Int) (ho : o.length ≤ 1048576) (hr : rangeB ((P.length : Int) - 1) o = true) (L : List Nat) (hL : L.length ≤ 1024) (hLS : ∀ s ∈ L, (isId P) s) : Ev (fun k => impl_cycles_int_at_impl_promote_1.f k (cast L) l o) ((cyc (wmot P o) (2 ^ P.length) [] L).map cast) := by
  have H : ∀ d i (m : List Nat) (w : List (List Int)), L.length - i = d → i ≤ L.length → Closed (wmot P o) (isId P) m → w.length ≤ i → Ev (fun k => impl_cycles_int_at_impl_promote_1.l0 k w (cast L) ((cast L).length : Int) (i : Int) l o (cast m)) (w ++ (cyc (wmot P o) (2 ^ P.length) m (L.drop i)).map cast) := by
    intro d
    induction d with
    | zero =>
      intro i m w hd hi _ _
      rw [show i = L.length by omega, List.drop_length]
      refine ev_eq (ev_step (Ev.now w) (fun k => by simp only [impl_cycles_int_at_impl_promote_1.l0]; rw [if_neg (by rw [cast_length]; omega)])) ?_
      simp [cyc]
    | succ d ih =>
      intro i m w hd hi hm hw
      obtain ⟨s, he⟩ : ∃ s, L.getD i 0 = s := ⟨_, rfl⟩
      have hmem : s ∈ L := by rw [← he]; exact getD_memN (by omega)
      have hs := hLS s hmem
      have c1 : (i : Int) < ((cast L).length : Int) := by rw [cast_length]; omega
      have c2 : 0 ≤ (i : Int) := by omega
      have hrd : rd (cast L) (i : Int) = (s : Int) := by rw [← he]; exact rd_cast L i
      have b1 : -9223372036854775808 ≤ (i : Int) + 1 := by omega
      have b2 : (i : Int) + 1 ≤ 9223372036854775807 := by omega
      have e1 : L.length - (i + 1) = d := by omega
      have e2 : i + 1 ≤ L.length := by omega
      have e3 : w.length ≤ i + 1 := by omega
      have e5 : w.length ≤ 1024 := by omega
      have e6 : i < L.length := by omega
      have e7 : w.length + 1 ≤ i + 1 := by omega
      have e8 : ((i + 1 : Nat) : Int) = (i : Int) + 1 := by omega
      have hw1 : wrap64 ((i : Int) + 1) = (i : Int) + 1 := wrap64_id b1 b2
      rw [drop_step L 0 e6, he]
      unfold cyc
      by_cases hms : s ∈ m
      · rw [if_pos hms]
        have hh : mhas (cast m) (s : Int) = true := by rw [scyp_has]; exact decide_eq_true hms
        have h0 := ih (i + 1) m w e1 e2 hm e3
        rw [e8] at h0
        exact ev_step h0 (fun k => by simp only [impl_cycles_int_at_impl_promote_1.l0]; rw [if_pos c1, if_pos c2, if_pos c1, hrd, if_pos hh, hw1])
      · rw [if_neg hms]
        have hh : ¬ mhas (cast m) (s : Int) = true := by rw [scyp_has, decide_eq_true_eq]; exact hms
        have hmo := word_motion o hr
        have h0 := ih (i + 1) (m ++ orb (wmot P o) (2 ^ P.length) s) (w ++ [cast (orb (wmot P o) (2 ^ P.length) s)]) e1 e2 (closed_orb hmo hm hs) (by rw [List.length_append, List.length_singleton]; exact e7)
        rw [e8, List.append_assoc] at h0
        have h1 := scyp_l1 hP o ho hr L hL e6 hm hs hms w e5 _ h0 _ 0 rfl (Nat.zero_le _)
        refine ev_eq (ev_step h1 (fun k => ?_)) ?_
        · simp only [impl_cycles_int_at_impl_promote_1.l0]
          rw [if_pos c1, if_pos c2, if_pos c1, hrd, if_neg hh]
          show _ = impl_cycles_int_at_impl_promote_1.l1 k w (cast []) (s : Int) (cast L) ((cast L).length : Int) (i : Int) l o (cast (m ++ []))
          rw [List.append_nil]
          rfl
        · rw [List.map_cons]; rfl
  have h0 := H _ 0 [] [] rfl (by omega) (fun x hx => by cases hx) (by simp)
  rw [List.drop_zero, List.nil_append] at h0
  unfold impl_cycles_int_at_impl_promote_1.f
  exact h0
end Go.Proofs.Ytkdddlkhildliaa.B

/-! ### S -/
/- Sets of a good poset: is it one, is an element in it. -/
namespace Go.Proofs.Ytkdddlkhildliaa.B
open Go.RowKit Go.Proofs.Ytkdddlkhildliaa.M Go.Proofs.YtkdddlkhildliaaW.PrintWords Go.Proofs.YtkdddlkhildliaaW.PrintLast Go.Proofs.YtkdddlkhildliaaW.PrintMore
attribute [local irreducible] Go.bits shl shr sd
/-- Is a number a set of elements? -/
def setB (l : List Int) (a : Int) : Bool := decide (0 ≤ a ∧ a ≤ ((2 ^ l.length - 1 : Nat) : Int))
theorem poSet_is (l : List Int) (hn : l.length ≤ 62) (a : Int) : spec_poSet.f l a = some (setB l a) := by
  unfold spec_poSet.f setB
  rw [mask_sub (by omega), l1In_is]
  rfl
theorem goodB_length {l : List Int} (h : goodB l = true) : 1 ≤ l.length ∧ l.length ≤ 10 := by
  unfold goodB at h
  rw [Bool.and_eq_true, decide_eq_true_eq] at h
  omega
theorem isSet_ev (l : List Int) (a : Int) : Ev (fun k => impl_isSet.f k l a) (goodB l && setB l a) := by
  unfold impl_isSet.f
  refine Ev.bind (IsPoset_ev l) ?_
  cases hg : goodB l with
  | false => exact ev_as (Ev.now _) (fun k => by rw [if_neg (by decide)]; rfl)
  | true =>
    have := goodB_length hg
    rw [Bool.true_and]
    exact ev_as (Ev.now _) (fun k => by rw [if_pos rfl, all_is l (by omega), Option.bind_some, within_is]; rfl)
theorem set_nat {l : List Int} {a : Int} (h : setB l a = true) : ∃ s : Nat, a = (s : Int) ∧ s < 2 ^ l.length := by
  unfold setB at h
  rw [decide_eq_true_eq] at h
  have := Nat.one_le_two_pow (n := l.length)
  exact ⟨a.toNat, by omega, by omega⟩
end Go.Proofs.Ytkdddlkhildliaa.B

/-! ### Sin -/
/- Is it a good poset, and a set an ideal of it: both sides. -/
namespace Go.Proofs.Ytkdddlkhildliaa.B
open Go.RowKit Go.Proofs.Ytkdddlkhildliaa.M Go.Proofs.YtkdddlkhildliaaW.PrintWords Go.Proofs.YtkdddlkhildliaaW.PrintLast Go.Proofs.YtkdddlkhildliaaW.PrintMore
attribute [local irreducible] Go.bits shl shr sd
/-- Is it a good poset, and a number an ideal of it? -/
def inB (l : List Int) (a : Int) : Bool := goodB l && (setB l a && idl (l.map Int.toNat) a.toNat)
theorem Good.nat {l : List Int} {P : List Nat} (h : Good l P) : l.map Int.toNat = P := by
  rw [h.eq]
  unfold cast
  rw [List.map_map]
  conv => rhs; rw [← List.map_id P]
  congr 1
theorem in_nat {l : List Int} {a : Int} (h : inB l a = true) : ∃ P, ∃ s : Nat, Good l P ∧ a = (s : Int) ∧ s < 2 ^ P.length ∧ idl P s = true := by
  unfold inB at h
  rw [Bool.and_eq_true, Bool.and_eq_true] at h
  obtain ⟨P, hP⟩ := good_of h.1
  obtain ⟨s, rfl, hs⟩ := set_nat h.2.1
  have hl := hP.length
  have hi := h.2.2
  rw [hP.nat, Int.toNat_natCast] at hi
  exact ⟨P, s, hP, rfl, by rw [show P.length = l.length by omega]; exact hs, hi⟩
theorem tgIn_ev (l : List Int) (a : Int) : Ev (fun k => spec_tgIn.f k l a) (inB l a) := by
  unfold spec_tgIn.f inB
  refine Ev.bind (poGood_ev l) ?_
  cases hg : goodB l with
  | false => exact ev_as (Ev.now _) (fun k => by rw [if_neg (by decide)]; rfl)
  | true =>
    have hlen := goodB_length hg
    rw [Bool.true_and]
    cases hs : setB l a with
    | false => exact ev_as (Ev.now _) (fun k => by rw [if_pos rfl, poSet_is l (by omega), hs, Option.bind_some, if_neg (by decide)]; rfl)
    | true =>
      obtain ⟨P, hP⟩ := good_of hg
      obtain ⟨s, rfl, hs2⟩ := set_nat hs
      have hl := hP.length
      rw [hP.nat, Int.toNat_natCast, Bool.true_and]
      exact ev_bind (poIdeal_ev hP (by rw [show P.length = l.length by omega]; exact hs2)) (Ev.now _) (fun k => by rw [if_pos rfl, poSet_is l (by omega), hs, Option.bind_some, if_pos rfl])
theorem isIdeal_ev (l : List Int) (a : Int) : Ev (fun k => impl_isIdeal.f k l a) (inB l a) := by
  unfold impl_isIdeal.f inB
  refine Ev.bind (isSet_ev l a) ?_
  cases hg : goodB l with
  | false => exact ev_as (Ev.now _) (fun k => by rw [Bool.false_and, if_neg (by decide)]; rfl)
  | true =>
    have hlen := goodB_length hg
    rw [Bool.true_and, Bool.true_and]
    cases hs : setB l a with
    | false => exact ev_as (Ev.now _) (fun k => by rw [if_neg (by decide)]; rfl)
    | true =>
      obtain ⟨P, hP⟩ := good_of hg
      obtain ⟨s, rfl, hs2⟩ := set_nat hs
      have hl := hP.length
      rw [hP.nat, Int.toNat_natCast, Bool.true_and, idl_dn]
      refine ev_bind (close_ev hP (by rw [show P.length = l.length by omega]; exact hs2)) (ev_eq (Ev.now _) ?_) (fun k => by rw [if_pos rfl])
      rw [Bool.eq_iff_iff, beq_iff_eq, decide_eq_true_eq]
      omega
end Go.Proofs.Ytkdddlkhildliaa.B

/-! ### L -/
/- What the laws' own helpers answer: sizes, copies, comparisons. -/
namespace Go.Proofs.Ytkdddlkhildliaa.B
open Go.RowKit Go.Proofs.Ytkdddlkhildliaa.M Go.Proofs.YtkdddlkhildliaaW.PrintWords Go.Proofs.YtkdddlkhildliaaW.PrintLast Go.Proofs.YtkdddlkhildliaaW.PrintMore
attribute [local irreducible] Go.bits shl shr sd
theorem sz_is (l : List Int) (hl : l.length ≤ 9223372036854775807) : laws_szPoset.f l 1048576 = some (if l.length ≤ 1048576 then 1048576 - (l.length : Int) else -1) := by
  unfold laws_szPoset.f laws_szIntS.f
  rw [wrap64_id (by omega) (by omega)]
  by_cases h : l.length ≤ 1048576
  · rw [if_neg (by omega), Option.bind_some, if_neg (by omega), if_pos h]
  · rw [if_pos (by omega), Option.bind_some, if_pos (by omega), if_neg h]
/-- The law's look at its poset's size. -/
theorem sz_bind {β : Type} (l : List Int) (hl : l.length ≤ 9223372036854775807) (F : Nat → Option β) (r r0 : β) (h : l.length ≤ 1048576 → Ev F r) (h2 : 1048576 < l.length → r = r0) :
    Ev (fun k => (laws_szPoset.f l 1048576).bind fun t => if t < 0 then some r0 else F k) r := by
  rw [sz_is l hl]
  by_cases hc : l.length ≤ 1048576
  · exact ev_as (h hc) (fun k => by rw [Option.bind_some, if_pos hc, if_neg (by omega)])
  · rw [h2 (by omega)]
    exact ev_as (Ev.now _) (fun k => by rw [Option.bind_some, if_neg hc, if_pos (by decide)])
theorem toIntS_l0 (l : List Int) (hl : l.length ≤ 35184372088832) : ∀ (i : Nat) (st : List Int), i ≤ l.length → (st.length = l.length ∧ ∀ j, j < i → st.getD j 0 = l.getD j 0) → Ev (fun k => laws_toIntS.l0 k l st (i : Int)) l := by
  refine ev_down (fun k (st : List Int) i => laws_toIntS.l0 k l st i) (fun _ _ => l) l.length (fun i st => st.length = l.length ∧ ∀ j, j < i → st.getD j 0 = l.getD j 0) ?_ ?_
  · rintro st ⟨h1, h2⟩
    have : st = l := List.ext_getElem h1 (fun i hi hi' => by
      have := h2 i hi'
      simpa [List.getD_eq_getElem?_getD, List.getElem?_eq_getElem hi, List.getElem?_eq_getElem hi'] using this)
    subst this
    exact ev_step (Ev.now _) (fun k => by simp only [laws_toIntS.l0]; rw [if_neg (by omega)])
  · rintro i st hi ⟨h1, h2⟩ ih
    have c1 : (i : Int) < (l.length : Int) := by omega
    have c2 : 0 ≤ (i : Int) := by omega
    have c3 : (i : Int) < (st.length : Int) := by omega
    have hw : wrap64 ((i : Int) + 1) = (i : Int) + 1 := wrap64_id (by omega) (by omega)
    refine ev_step (ih (st.set i (rd l (i : Int))) ⟨by rw [List.length_set]; exact h1, fun j hj => ?_⟩) (fun k => by simp only [laws_toIntS.l0]; rw [if_pos c1, if_pos c2, if_pos c3, hw, Int.toNat_natCast])
    rw [rd_nat, List.getD_eq_getElem?_getD, List.getElem?_set]
    by_cases h : i = j
    · subst h
      rw [if_pos rfl, if_pos (by omega), Option.getD_some]
    · rw [if_neg h, ← List.getD_eq_getElem?_getD]
      exact h2 j (by omega)
theorem toIntS_ev (l : List Int) (hl : l.length ≤ 35184372088832) : Ev (fun k => laws_toIntS.f k l) l := by
  unfold laws_toIntS.f
  refine ev_as (toIntS_l0 l hl 0 (List.replicate ((l.length : Int)).toNat 0) (by omega) ⟨by simp, fun j h => absurd h (by omega)⟩) (fun k => ?_)
  rw [if_pos (by omega), if_pos (by omega)]
  rfl
theorem toPoset_ev (l : List Int) (hl : l.length ≤ 35184372088832) : Ev (fun k => laws_toPoset.f k l) l := by
  unfold laws_toPoset.f
  exact Ev.bind (toIntS_ev l hl) (Ev.now _)
theorem eqIntS_l0 (l : List Int) (hl : l.length ≤ 35184372088832) : ∀ (i : Nat) (_ : Unit), i ≤ l.length → True → Ev (fun k => laws_eqIntS.l0 k l l (i : Int)) true := by
  refine ev_down (fun k (_ : Unit) i => laws_eqIntS.l0 k l l i) (fun _ _ => true) l.length (fun _ _ => True) ?_ ?_
  · intro _ _
    exact ev_step (Ev.now _) (fun k => by simp only [laws_eqIntS.l0]; rw [if_neg (by omega)])
  · intro i _ hi _ ih
    have c1 : (i : Int) < (l.length : Int) := by omega
    have hw : wrap64 ((i : Int) + 1) = (i : Int) + 1 := wrap64_id (by omega) (by omega)
    exact ev_step (ih () trivial) (fun k => by simp only [laws_eqIntS.l0]; rw [if_pos c1, if_pos (by omega), if_pos c1, if_pos trivial, hw])
theorem eqIntS_ev (l : List Int) (hl : l.length ≤ 35184372088832) : Ev (fun k => laws_eqIntS.f k l l) true := by
  unfold laws_eqIntS.f
  exact ev_as (eqIntS_l0 l hl 0 () (by omega) trivial) (fun k => by rw [if_pos rfl]; rfl)
theorem eqPoset_ev (l : List Int) (hl : l.length ≤ 35184372088832) : Ev (fun k => laws_eqPoset.f k l l) true := by
  unfold laws_eqPoset.f
  exact Ev.bind (eqIntS_ev l hl) (Ev.now _)
end Go.Proofs.Ytkdddlkhildliaa.B

/-! ### Lm -/
/- Marks: what is written into a list that was handed back, and found there again. -/
namespace Go.Proofs.Ytkdddlkhildliaa.B
open Go.RowKit Go.Proofs.Ytkdddlkhildliaa.M Go.Proofs.YtkdddlkhildliaaW.PrintWords Go.Proofs.YtkdddlkhildliaaW.PrintLast Go.Proofs.YtkdddlkhildliaaW.PrintMore
attribute [local irreducible] Go.bits shl shr sd
/-- The list with its places numbered from k on. -/
def marked (l : List Int) (k : Int) : List Int := (List.range l.length).map (fun j : Nat => k + (j : Int))
theorem markIntS_l0 (l : List Int) (k0 : Int) (hl : l.length ≤ 35184372088832) (h0 : 0 ≤ k0) (h1 : k0 ≤ 35184372088832) : ∀ (i : Nat) (st : List Int), i ≤ l.length → (st.length = l.length ∧ ∀ j, j < i → st.getD j 0 = k0 + (j : Int)) →
    Ev (fun k => laws_markIntS.l0 k st (k0 + (i : Int)) (i : Int)) (k0 + (l.length : Int), marked l k0) := by
  have H := ev_down (fun k (st : List Int) i => laws_markIntS.l0 k st (k0 + i) i) (fun _ _ => (k0 + (l.length : Int), marked l k0)) l.length (fun i st => st.length = l.length ∧ ∀ j, j < i → st.getD j 0 = k0 + (j : Int)) ?_ ?_
  · exact H
  · rintro st ⟨h2, h3⟩
    have : st = marked l k0 := by
      unfold marked
      apply List.ext_getElem
      · simpa using h2
      · intro i hi hi'
        have := h3 i (by omega)
        rw [List.getD_eq_getElem?_getD, List.getElem?_eq_getElem hi] at this
        simpa using this
    rw [this]
    exact ev_step (Ev.now _) (fun k => by simp only [laws_markIntS.l0]; rw [if_neg (by unfold marked; simp)])
  · rintro i st hi ⟨h2, h3⟩ ih
    have c1 : (i : Int) < (st.length : Int) := by omega
    have hw : wrap64 ((i : Int) + 1) = (i : Int) + 1 := wrap64_id (by omega) (by omega)
    have hw2 : wrap64 (k0 + (i : Int) + 1) = k0 + ((i : Int) + 1) := by rw [wrap64_id (by omega) (by omega)]; omega
    refine ev_step (ih (st.set i (k0 + (i : Int))) ⟨by rw [List.length_set]; exact h2, fun j hj => ?_⟩) (fun k => by simp only [laws_markIntS.l0]; rw [if_pos c1, if_pos (by omega), hw, hw2, Int.toNat_natCast])
    rw [List.getD_eq_getElem?_getD, List.getElem?_set]
    by_cases h : i = j
    · subst h
      rw [if_pos rfl, if_pos (by omega), Option.getD_some]
    · rw [if_neg h, ← List.getD_eq_getElem?_getD]
      exact h3 j (by omega)
theorem markIntS_ev (l : List Int) (k0 : Int) (hl : l.length ≤ 35184372088832) (h0 : 0 ≤ k0) (h1 : k0 ≤ 35184372088832) : Ev (fun k => laws_markIntS.f k l k0) (k0 + (l.length : Int), marked l k0) := by
  unfold laws_markIntS.f
  have := markIntS_l0 l k0 hl h0 h1 0 l (by omega) ⟨rfl, fun j h => absurd h (by omega)⟩
  simpa using this
theorem markPoset_ev (l : List Int) (k0 : Int) (hl : l.length ≤ 35184372088832) (h0 : 0 ≤ k0) (h1 : k0 ≤ 35184372088832) : Ev (fun k => laws_markPoset.f k l k0) (k0 + (l.length : Int), marked l k0) := by
  unfold laws_markPoset.f
  exact Ev.bind (markIntS_ev l k0 hl h0 h1) (Ev.now _)
theorem marked_length (l : List Int) (k : Int) : (marked l k).length = l.length := by unfold marked; simp
theorem marked_getD (l : List Int) (k : Int) {j : Nat} (h : j < l.length) : (marked l k).getD j 0 = k + (j : Int) := by
  unfold marked
  simp [List.getD_eq_getElem?_getD, h]
theorem heldIntS_ev (l : List Int) (k0 : Int) (hl : l.length ≤ 35184372088832) (h0 : 0 ≤ k0) (h1 : k0 ≤ 35184372088832) : Ev (fun k => laws_heldIntS.f k (marked l k0) k0) (k0 + (l.length : Int)) := by
  have H := ev_down (fun k (_ : Unit) i => laws_heldIntS.l0 k (marked l k0) (k0 + i) i) (fun _ _ => k0 + (l.length : Int)) l.length (fun _ _ => True) ?_ ?_ 0 () (by omega) trivial
  · unfold laws_heldIntS.f
    simpa using H
  · intro _ _
    exact ev_step (Ev.now _) (fun k => by simp only [laws_heldIntS.l0]; rw [if_neg (by rw [marked_length]; omega)])
  · intro i _ hi _ ih
    have c1 : (i : Int) < ((marked l k0).length : Int) := by rw [marked_length]; omega
    have hw : wrap64 ((i : Int) + 1) = (i : Int) + 1 := wrap64_id (by omega) (by omega)
    have hw2 : wrap64 (k0 + (i : Int) + 1) = k0 + ((i : Int) + 1) := by rw [wrap64_id (by omega) (by omega)]; omega
    exact ev_step (ih () trivial) (fun k => by simp only [laws_heldIntS.l0]; rw [if_pos c1, if_pos (by omega), rd_nat, marked_getD l k0 hi, if_pos rfl, hw, hw2])
end Go.Proofs.Ytkdddlkhildliaa.B

/-! ### PureFnExactFileSums -/
/- The plain law of FileSums: the two printed functions answer alike. -/
namespace Go.Proofs.Ytkdddlkhildliaa.B
open Go.RowKit Go.Proofs.Ytkdddlkhildliaa.M Go.Proofs.YtkdddlkhildliaaW.PrintWords Go.Proofs.YtkdddlkhildliaaW.PrintLast Go.Proofs.YtkdddlkhildliaaW.PrintMore
attribute [local irreducible] Go.bits shl shr sd
theorem poSides_of9 {a b : Int} (h : sides9 a b = true) : spec_poSides.f a b = some true := by
  obtain ⟨m, n, rfl, rfl, h1, h2, h3, h4, h5, h6, h7, h8⟩ := sides9_nat h
  rw [poSides_is]
  unfold sidesB
  rw [decide_eq_true (by omega), decide_eq_true (by omega), decide_eq_true (by rw [← Int.natCast_mul]; omega)]
  rfl
theorem both_FileSums (a b c : Int) : ∃ w z, w.length ≤ 1024 ∧ Ev (fun k => spec_FileSums.f k a b c) (w, z) ∧ Ev (fun k => impl_FileSums.f k a b c) (w, z) := by
  unfold spec_FileSums.f impl_FileSums.f
  cases hs : sides9 a b with
  | false =>
    refine ⟨[], false, by simp, ?_, ?_⟩
    · refine Ev.bind (a := false) ?_ (ev_as (Ev.now _) (fun k => by rw [if_neg (by decide)]))
      unfold spec_obIdeal.f
      exact ev_as (Ev.now _) (fun k => by rw [obSides_is, hs, Option.bind_some, if_neg (by decide)])
    · refine Ev.bind (a := false) ?_ (ev_as (Ev.now _) (fun k => by rw [if_neg (by decide)]))
      unfold impl_isIdealOf.f
      exact ev_as (Ev.now _) (fun k => by rw [areSides9_is, hs, Option.bind_some, if_neg (by decide)])
  | true =>
    have hps := poSides_of9 hs
    obtain ⟨m, n, rfl, rfl, h1, h2, h3, h4, h5, h6, h7, h8⟩ := sides9_nat hs
    obtain ⟨l, P, hP, hlen, e1, e2⟩ := rect_ev h1 h2 h3 h4 h5
    have g1 : Ev (fun k => spec_obIdeal.f k (m : Int) (n : Int) c) (inB l c) := by
      unfold spec_obIdeal.f
      refine ev_bind (a := inB l c) ?_ (Ev.now _) (fun k => by rw [obSides_is, hs, Option.bind_some, if_pos rfl])
      unfold spec_tgRectangle.f
      refine ev_bind e1 ?_ (fun k => by rw [hps, Option.bind_some, if_pos rfl])
      exact Ev.bind (tgIn_ev l c) (Ev.now _)
    have g2 : Ev (fun k => impl_isIdealOf.f k (m : Int) (n : Int) c) (inB l c) := by
      unfold impl_isIdealOf.f
      refine ev_bind e2 ?_ (fun k => by rw [areSides9_is, hs, Option.bind_some, if_pos rfl])
      exact Ev.bind (isIdeal_ev l c) (Ev.now _)
    cases hg : inB l c with
    | false =>
      exact ⟨[], false, by simp, Ev.bind (hg ▸ g1) (ev_as (Ev.now _) (fun k => by rw [if_neg (by decide)])), Ev.bind (hg ▸ g2) (ev_as (Ev.now _) (fun k => by rw [if_neg (by decide)]))⟩
    | true =>
      obtain ⟨P', s, hP', rfl, hsl, hi⟩ := in_nat hg
      have hPP : P' = P := by rw [← hP'.nat, hP.nat]
      subst hPP
      have hid : isId P' s := ⟨hsl, hi⟩
      have hmo := word_motion (P := P') (pword m n 0) (word9_range hlen)
      have h24 : 2 ^ P'.length ≤ 1024 := two_pow_le (j := 10) hP.n10
      have hol := orb_length hmo hid
      have hsz : wrap64 (wrap64 ((m : Int) + (n : Int)) - 1) = ((m + n - 1 : Nat) : Int) := by
        rw [wrap64_id (x := (m : Int) + (n : Int)) (by omega) (by omega), wrap64_id (by omega) (by omega)]
        omega
      have hlz : (List.replicate ((((m + n - 1 : Nat) : Int)).toNat) (0 : Int)).length = m + n - 1 := by rw [List.length_replicate, Int.toNat_natCast]
      refine ⟨fAll m n (orb (wmot P' (pword m n 0)) (2 ^ P'.length) s) (List.replicate ((((m + n - 1 : Nat) : Int)).toNat) 0), true, ?_, Ev.bind (hg ▸ g1) ?_, Ev.bind (hg ▸ g2) ?_⟩
      · rw [fAll_length h1 h2 h3 h4 h5, hlz]; omega
      · refine ev_bind (obPromotion_ev h1 h2 h3 h4 h5 hP hlen e1 hid) ?_ (fun k => by rw [if_pos rfl, hsz, if_pos (by omega), if_pos (by omega)])
        have := specF_l0 h1 h2 h3 h4 h5 (orb (wmot P' (pword m n 0)) (2 ^ P'.length) s) (by omega) 0 _ (by omega) hlz
        rwa [List.drop_zero] at this
      · refine ev_bind e2 ?_ (fun k => by rw [if_pos rfl, hsz, if_pos (by omega), if_pos (by omega)])
        refine Ev.bind (promotion_ev h1 h2 h3 h4 h5) ?_
        have k1 := scyp_ev hP (pword m n 0) (pword_length h2 h4) (word9_range hlen) [s] (by simp) (fun x hx => by rw [List.mem_singleton] at hx; rw [hx]; exact hid)
        have k2 : (cyc (wmot P' (pword m n 0)) (2 ^ P'.length) [] [s]).map cast = [cast (orb (wmot P' (pword m n 0)) (2 ^ P'.length) s)] := by
          unfold cyc cyc
          rw [if_neg (by simp)]
          rfl
        rw [k2] at k1
        refine Ev.bind k1 ?_
        have k3 := implF_l0 h1 h2 h3 h4 h5 (orb (wmot P' (pword m n 0)) (2 ^ P'.length) s) (by omega) (fun t ht => by rw [← hlen]; exact (mem_orb hmo hid ht).1) 0 _ (by omega) hlz
        rw [List.drop_zero] at k3
        exact ev_as k3 (fun k => by rw [if_pos (by simp)]; rfl)
theorem tail_FileSums (a b c : Int) (w : List Int) (z : Bool) (hw : w.length ≤ 1048576) (h2 : Ev (fun k => impl_FileSums.f k a b c) (w, z)) : Ev (fun k => laws_FnExactFileSums.j0 k a b c w z w false) true := by
  have e2 : Ev (fun k => laws_FnExactFileSums.j1 k (marked w 1) (1 + (w.length : Int)) false) true := by
    refine ev_stepb (heldIntS_ev w 1 (by omega) (by omega) (by omega)) ?_ (fun k => by simp only [laws_FnExactFileSums.j1]; rw [if_neg (by decide)])
    exact ev_as (Ev.now _) (fun k => by rw [if_neg (by omega), if_pos rfl])
  refine ev_stepb (markIntS_ev w 1 (by omega) (by omega) (by omega)) ?_ (fun k => by simp only [laws_FnExactFileSums.j0]; rw [if_neg (by decide)])
  refine ev_bind (heldIntS_ev w 1 (by omega) (by omega) (by omega)) ?_ (fun k => rfl)
  refine ev_bind h2 ?_ (fun k => by rw [if_neg (by omega), if_pos rfl])
  refine ev_bind (eqIntS_ev w (by omega)) ?_ (fun k => rfl)
  exact ev_as e2 (fun k => by rw [if_pos rfl, bne_self_eq_false])
theorem FnExactFileSums (a b c : Int) (_ : (Lit.int .i64 a).wf = true) (_ : (Lit.int .i64 b).wf = true) (_ : (Lit.int .i64 c).wf = true) : ∃ k, laws_FnExactFileSums.f k a b c = some true := by
  apply Ev.rounds
  unfold laws_FnExactFileSums.f
  obtain ⟨w, z, hw, h1, h2⟩ := both_FileSums a b c
  refine Ev.bind h1 ?_
  refine Ev.bind h2 ?_
  refine Ev.bind (eqIntS_ev w (by omega)) ?_
  exact ev_as (tail_FileSums a b c w z (by omega) h2) (fun k => by rw [if_pos rfl, bne_self_eq_false])
end Go.Proofs.Ytkdddlkhildliaa.B
