import Derived.Test.YtkdddlkhildliaaWWords
import Derived.Test.YtkdddlkhildliaaWMore
import Derived.Laws.BitsLemmas
import Derived.Test.YtkdddlkhildliaaB1
import Derived.Test.YtkdddlkhildliaaB18
import Derived.Test.YtkdddlkhildliaaB2
import Derived.Test.YtkdddlkhildliaaB21
import Derived.Test.YtkdddlkhildliaaB22
import Derived.Test.YtkdddlkhildliaaB3
import Derived.Test.YtkdddlkhildliaaB4
import Derived.Test.YtkdddlkhildliaaB5
import Derived.Test.YtkdddlkhildliaaB6
import Derived.Test.YtkdddlkhildliaaB7
import Derived.Test.YtkdddlkhildliaaB8
/-! ### M -/
/- Plain laws on whole numbers, bits and lists, with no program in sight: what the proofs over the printed functions rest on. -/
namespace Go.Proofs.Ytkdddlkhildliaa.M
open Go.RowKit Go.Proofs.YtkdddlkhildliaaW.PrintWords Go.Proofs.YtkdddlkhildliaaW.PrintLast Go.Proofs.YtkdddlkhildliaaW.PrintMore

/-! ### rounds -/
theorem ev_now {α : Type} (r : α) : Ev (fun _ => some r) r := Ev.now r
theorem ev_const {α : Type} {g : Option α} {r : α} (h : g = some r) : Ev (fun _ => g) r := ⟨0, fun _ _ => h⟩
theorem ev_eq {α : Type} {g : Nat → Option α} {r r' : α} (h : Ev g r) (e : r = r') : Ev g r' := e ▸ h
theorem ev_unique {α : Type} {g : Nat → Option α} {r r' : α} (h : Ev g r) (h' : Ev g r') : r = r' := by
  obtain ⟨K, h⟩ := h
  obtain ⟨K', h'⟩ := h'
  have h1 := h (max K K') (by omega)
  have h2 := h' (max K K') (by omega)
  rw [h1] at h2
  exact Option.some.inj h2
/-- One round of a loop: what follows is told first. -/
theorem ev_step {α : Type} {g f : Nat → Option α} {r : α} (k : Ev f r) (h : ∀ k, g (k + 1) = f k) : Ev g r := Ev.step h k
theorem ev_as {α : Type} {g f : Nat → Option α} {r : α} (k : Ev f r) (h : ∀ k, g k = f k) : Ev g r := Ev.congr h k
theorem ev_bind {α β : Type} {A : Nat → Option α} {F : Nat → α → Option β} {g : Nat → Option β} {a : α} {r : β} (ha : Ev A a) (hb : Ev (fun n => F n a) r) (h : ∀ k, g k = (A k).bind (F k)) : Ev g r := Ev.congr h (Ev.bind ha hb)
theorem ev_stepb {α β : Type} {A : Nat → Option α} {F : Nat → α → Option β} {g : Nat → Option β} {a : α} {r : β} (ha : Ev A a) (hb : Ev (fun n => F n a) r) (h : ∀ k, g (k + 1) = (A k).bind (F k)) : Ev g r := Ev.step h (Ev.bind ha hb)
/-- A loop over places, told backwards: what holds from each place on. -/
theorem ev_down {σ β : Type} (g : Nat → σ → Int → Option β) (R : Nat → σ → β) (n : Nat) (Inv : Nat → σ → Prop)
    (hn : ∀ st, Inv n st → Ev (fun k => g k st (n : Int)) (R n st))
    (hs : ∀ (i : Nat) st, i < n → Inv i st → (∀ st', Inv (i + 1) st' → Ev (fun k => g k st' ((i : Int) + 1)) (R (i + 1) st')) → Ev (fun k => g k st (i : Int)) (R i st)) :
    ∀ (i : Nat) st, i ≤ n → Inv i st → Ev (fun k => g k st (i : Int)) (R i st) := by
  have H : ∀ d i st, n - i = d → i ≤ n → Inv i st → Ev (fun k => g k st (i : Int)) (R i st) := by
    intro d
    induction d with
    | zero =>
      intro i st hd hi hI
      obtain rfl : i = n := by omega
      exact hn st hI
    | succ d ih =>
      intro i st hd hi hI
      refine hs i st (by omega) hI (fun st' hI' => ?_)
      have := ih (i + 1) st' (by omega) (by omega) hI'
      rwa [show (((i + 1 : Nat)) : Int) = (i : Int) + 1 by omega] at this
  exact fun i st hi hI => H (n - i) i st rfl hi hI

/-! ### numbers -/
theorem wrap64_id {x : Int} (h1 : -9223372036854775808 ≤ x) (h2 : x ≤ 9223372036854775807) : wrap64 x = x := by unfold wrap64; omega
theorem rd_nat (l : List Int) (i : Nat) : rd l (i : Int) = l.getD i 0 := by unfold rd; rw [Int.toNat_natCast]
theorem rd_cast (l : List Nat) (i : Nat) : rd (l.map (fun x : Nat => (x : Int))) (i : Int) = ((l.getD i 0 : Nat) : Int) := by
  rw [rd_nat]
  simp only [List.getD_eq_getElem?_getD, List.getElem?_map]
  cases l[i]? <;> simp

/-! ### bits of small natural numbers -/
theorem w63 (n : Int) (h0 : 0 ≤ n) (h1 : n < 2 ^ 63) : IntKind.i64.wrap n = n := by rw [IntKind.wrap_i64]; omega
theorem and_nat {a b : Nat} (ha : a < 2 ^ 63) (hb : b < 2 ^ 63) : Go.bits .and .i64 (a : Int) (b : Int) = ((a &&& b : Nat) : Int) := (bits_nat .i64 63 (by decide) w63 a b ha hb).1
theorem or_nat {a b : Nat} (ha : a < 2 ^ 63) (hb : b < 2 ^ 63) : Go.bits .or .i64 (a : Int) (b : Int) = ((a ||| b : Nat) : Int) := (bits_nat .i64 63 (by decide) w63 a b ha hb).2
/-- What a set has beyond another. -/
def sd (a b : Nat) : Nat := a ^^^ (a &&& b)
theorem sd_bit (a b i : Nat) : (sd a b).testBit i = (a.testBit i && !b.testBit i) := by
  unfold sd
  rw [Nat.testBit_xor, Nat.testBit_and]
  cases a.testBit i <;> cases b.testBit i <;> rfl
theorem sd_lt {a b n : Nat} (ha : a < 2 ^ n) : sd a b < 2 ^ n := Nat.xor_lt_two_pow ha (Nat.lt_of_le_of_lt Nat.and_le_left ha)
theorem andNot_nat {a b : Nat} (ha : a < 2 ^ 63) (hb : b < 2 ^ 63) : Go.bits .andNot .i64 (a : Int) (b : Int) = ((sd a b : Nat) : Int) := by
  have h1 : (BitVec.ofInt 64 (a : Int) &&& ~~~ BitVec.ofInt 64 (b : Int)).toNat = sd a b := by
    apply Nat.eq_of_testBit_eq
    intro i
    rw [BitVec.testBit_toNat, sd_bit, BitVec.getLsbD_and, BitVec.getLsbD_not, ← BitVec.testBit_toNat, ← BitVec.testBit_toNat, BitVec.ofInt_natCast, BitVec.ofInt_natCast, BitVec.toNat_ofNat, BitVec.toNat_ofNat,
      Nat.mod_eq_of_lt (by omega : a < 2 ^ 64), Nat.mod_eq_of_lt (by omega : b < 2 ^ 64)]
    by_cases hi : i < 64
    · simp [hi]
    · have : a.testBit i = false := Nat.testBit_lt_two_pow (Nat.lt_of_lt_of_le (by omega : a < 2 ^ 64) (Nat.pow_le_pow_right (by decide) (by omega)))
      simp [this]
  show IntKind.i64.wrap ((BitVec.ofInt 64 (a : Int) &&& ~~~ BitVec.ofInt 64 (b : Int)).toNat : Int) = _
  rw [h1]
  have := sd_lt (b := b) ha
  exact w63 _ (by omega) (by exact_mod_cast this)
theorem xor_nat {a b : Nat} (ha : a < 2 ^ 63) (hb : b < 2 ^ 63) : Go.bits .xor .i64 (a : Int) (b : Int) = ((a ^^^ b : Nat) : Int) := by
  have h1 : (BitVec.ofInt 64 (a : Int) ^^^ BitVec.ofInt 64 (b : Int)).toNat = a ^^^ b := by
    rw [BitVec.toNat_xor, BitVec.ofInt_natCast, BitVec.ofInt_natCast, BitVec.toNat_ofNat, BitVec.toNat_ofNat, Nat.mod_eq_of_lt (by omega : a < 2 ^ 64), Nat.mod_eq_of_lt (by omega : b < 2 ^ 64)]
  show IntKind.i64.wrap ((BitVec.ofInt 64 (a : Int) ^^^ BitVec.ofInt 64 (b : Int)).toNat : Int) = _
  rw [h1]
  have := Nat.xor_lt_two_pow ha hb
  exact w63 _ (by omega) (by exact_mod_cast this)
theorem shl_one {i : Nat} (hi : i < 63) : shl .i64 1 (i : Int) = ((2 ^ i : Nat) : Int) := by
  unfold shl
  rw [Int.toNat_natCast, show IntKind.i64.bits = 64 from rfl, Nat.min_eq_left (by omega), Int.one_mul]
  have h : (2 : Nat) ^ i < 2 ^ 63 := Nat.pow_lt_pow_right (by decide) hi
  rw [w63 _ (Int.pow_nonneg (by decide)) (by exact_mod_cast h)]
  simp
theorem shr_nat {s i : Nat} (hi : i ≤ 64) : shr .i64 (s : Int) (i : Int) = ((s / 2 ^ i : Nat) : Int) := by
  unfold shr
  rw [Int.toNat_natCast, show IntKind.i64.bits = 64 from rfl, Nat.min_eq_left hi]
  simp
theorem bit_div (s i : Nat) : s.testBit i = decide (s / 2 ^ i % 2 = 1) := by
  rw [Nat.testBit_eq_decide_div_mod_eq]
theorem bit_tmod {s i : Nat} (hi : i ≤ 64) : (Int.tmod (shr .i64 (s : Int) (i : Int)) 2 = 1) ↔ s.testBit i = true := by
  rw [shr_nat hi, bit_div, decide_eq_true_eq, Int.tmod_eq_emod_of_nonneg (Int.natCast_nonneg _)]
  generalize s / 2 ^ i = q
  omega
theorem bit_and1 {s i : Nat} (hs : s < 2 ^ 63) (hi : i ≤ 64) : (Go.bits .and .i64 (shr .i64 (s : Int) (i : Int)) 1 = 1) ↔ s.testBit i = true := by
  have h2 : s / 2 ^ i < 2 ^ 63 := Nat.lt_of_le_of_lt (Nat.div_le_self _ _) hs
  rw [shr_nat hi, show (1 : Int) = ((1 : Nat) : Int) from rfl, and_nat h2 (by decide), bit_div, decide_eq_true_eq, Nat.and_one_is_mod]
  omega
theorem two_pow_le {i j : Nat} (h : i ≤ j) : (2 : Nat) ^ i ≤ 2 ^ j := Nat.pow_le_pow_right (by decide) h
theorem two_pow_lt63 {i : Nat} (h : i < 63) : (2 : Nat) ^ i < 2 ^ 63 := Nat.pow_lt_pow_right (by decide) h
theorem mask_sub {i : Nat} (hi : i < 63) : wrap64 (shl .i64 1 (i : Int) - 1) = ((2 ^ i - 1 : Nat) : Int) := by
  rw [shl_one hi]
  have h := two_pow_lt63 hi
  have h1 : 1 ≤ 2 ^ i := Nat.one_le_two_pow
  unfold wrap64
  omega

/-! ### folds from a place on -/
def foldFrom {σ : Type} (f : σ → Nat → σ) (i n : Nat) (st : σ) : σ := (List.range' i (n - i)).foldl f st
theorem foldFrom_end {σ : Type} (f : σ → Nat → σ) (n : Nat) (st : σ) : foldFrom f n n st = st := by unfold foldFrom; simp
theorem foldFrom_step {σ : Type} (f : σ → Nat → σ) {i n : Nat} (h : i < n) (st : σ) : foldFrom f i n st = foldFrom f (i + 1) n (f st i) := by
  unfold foldFrom
  obtain ⟨d, hd⟩ : ∃ d, n - i = d + 1 := ⟨n - i - 1, by omega⟩
  rw [hd, show n - (i + 1) = d by omega, List.range'_succ, List.foldl_cons]
def allFrom (f : Nat → Bool) (i n : Nat) : Bool := (List.range' i (n - i)).all f
theorem allFrom_end (f : Nat → Bool) (n : Nat) : allFrom f n n = true := by unfold allFrom; simp
theorem allFrom_step (f : Nat → Bool) {i n : Nat} (h : i < n) : allFrom f i n = (f i && allFrom f (i + 1) n) := by
  unfold allFrom
  obtain ⟨d, hd⟩ : ∃ d, n - i = d + 1 := ⟨n - i - 1, by omega⟩
  rw [hd, show n - (i + 1) = d by omega, List.range'_succ, List.all_cons]
theorem allFrom_iff (f : Nat → Bool) (i n : Nat) : allFrom f i n = true ↔ ∀ j, i ≤ j → j < n → f j = true := by
  unfold allFrom
  rw [List.all_eq_true]
  constructor
  · intro h j h1 h2
    exact h j (by rw [List.mem_range'_1]; omega)
  · intro h j hj
    rw [List.mem_range'_1] at hj
    exact h j (by omega) (by omega)
theorem drop_step {α : Type} (xs : List α) (d : α) {i : Nat} (h : i < xs.length) : xs.drop i = xs.getD i d :: xs.drop (i + 1) := by
  rw [List.drop_eq_getElem_cons h]
  congr 1
  rw [List.getD_eq_getElem?_getD, List.getElem?_eq_getElem h, Option.getD_some]

theorem getD_memN {o : List Nat} {i : Nat} (h : i < o.length) : o.getD i 0 ∈ o := by
  rw [List.getD_eq_getElem?_getD, List.getElem?_eq_getElem h, Option.getD_some]; exact List.getElem_mem h
/-! ### sets of elements below 10 -/
def items (s : Nat) : List Nat := (List.range 10).filter (fun e => s.testBit e)
def itemsUpto (s e : Nat) : List Nat := (List.range e).filter (fun e => s.testBit e)
theorem mem_items {s e : Nat} : e ∈ items s ↔ e < 10 ∧ s.testBit e = true := by
  unfold items; rw [List.mem_filter, List.mem_range]
theorem bit_lt {s n e : Nat} (hs : s < 2 ^ n) (h : s.testBit e = true) : e < n := by
  rcases Nat.lt_or_ge e n with h1 | h1
  · exact h1
  · have := Nat.testBit_lt_two_pow (Nat.lt_of_lt_of_le hs (two_pow_le h1))
    rw [this] at h; cases h
theorem filter_range_ext {s n m : Nat} (hs : s < 2 ^ n) (hm : n ≤ m) : (List.range m).filter (fun e => s.testBit e) = (List.range n).filter (fun e => s.testBit e) := by
  obtain ⟨d, rfl⟩ : ∃ d, m = n + d := ⟨m - n, by omega⟩
  induction d with
  | zero => rfl
  | succ d ih =>
    rw [← Nat.add_assoc, List.range_succ, List.filter_append, ih (by omega)]
    have : s.testBit (n + d) = false := Nat.testBit_lt_two_pow (Nat.lt_of_lt_of_le hs (two_pow_le (by omega)))
    simp [this]
theorem items_eq {s n : Nat} (hs : s < 2 ^ n) (hn : n ≤ 10) : items s = (List.range n).filter (fun e => s.testBit e) := filter_range_ext hs hn
theorem foldl_filter {α σ : Type} (p : α → Bool) (f : σ → α → σ) (l : List α) (st : σ) : (l.filter p).foldl f st = l.foldl (fun st x => if p x then f st x else st) st := by
  induction l generalizing st with
  | nil => rfl
  | cons x l ih =>
    rw [List.filter_cons]
    cases hp : p x <;> simp [hp, ih]
/-- What a fold over the elements of a set is: a fold over all places. -/
theorem fold_items {σ : Type} (f : σ → Nat → σ) {s n : Nat} (hs : s < 2 ^ n) (hn : n ≤ 10) (st : σ) : (items s).foldl f st = foldFrom (fun st e => if s.testBit e then f st e else st) 0 n st := by
  rw [items_eq hs hn, foldl_filter]
  unfold foldFrom
  rw [Nat.sub_zero, List.range_eq_range']
theorem all_filter {α : Type} (p f : α → Bool) (l : List α) : (l.filter p).all f = l.all (fun x => !p x || f x) := by
  induction l with
  | nil => rfl
  | cons x l ih =>
    rw [List.filter_cons]
    cases hp : p x <;> simp [hp, ih]
theorem all_items (f : Nat → Bool) {s n : Nat} (hs : s < 2 ^ n) (hn : n ≤ 10) : (items s).all f = allFrom (fun e => !s.testBit e || f e) 0 n := by
  rw [items_eq hs hn, all_filter]
  unfold allFrom
  rw [Nat.sub_zero, List.range_eq_range']

/-! ### sets of elements of a poset, told by their bits -/
theorem foldFrom_inv {σ : Type} (f : σ → Nat → σ) (Q : Nat → σ → Prop) (n : Nat) (hs : ∀ i st, i < n → Q i st → Q (i + 1) (f st i)) : ∀ (i : Nat) (st : σ), i ≤ n → Q i st → Q n (foldFrom f i n st) := by
  have H : ∀ d i st, n - i = d → i ≤ n → Q i st → Q n (foldFrom f i n st) := by
    intro d
    induction d with
    | zero =>
      intro i st hd hi hQ
      obtain rfl : i = n := by omega
      rw [foldFrom_end]; exact hQ
    | succ d ih =>
      intro i st hd hi hQ
      rw [foldFrom_step _ (by omega)]
      exact ih (i + 1) _ (by omega) (by omega) (hs i st (by omega) hQ)
  exact fun i st hi hQ => H (n - i) i st rfl hi hQ
/-- The least ideal with a set. -/
def dn (P : List Nat) (s : Nat) : Nat := foldFrom (fun o i => if s.testBit i then o ||| P.getD i 0 else o) 0 P.length s
/-- What is not less than another one of the set. -/
def tp (P : List Nat) (s : Nat) : Nat := foldFrom (fun o i => if s.testBit i then sd o (P.getD i 0) else o) 0 P.length s
/-- What has nothing of the set below. -/
def bm (P : List Nat) (s : Nat) : Nat := foldFrom (fun o i => if s.testBit i then (if P.getD i 0 &&& s = 0 then o ||| 2 ^ i else o) else o) 0 P.length 0
/-- Is the set an ideal? -/
def idl (P : List Nat) (s : Nat) : Bool := allFrom (fun i => !s.testBit i || decide (sd (P.getD i 0) s = 0)) 0 P.length
theorem sd_eq_zero {a b : Nat} : sd a b = 0 ↔ ∀ j, a.testBit j = true → b.testBit j = true := by
  constructor
  · intro h j hj
    have := sd_bit a b j
    rw [h, Nat.zero_testBit, hj] at this
    cases hb : b.testBit j <;> simp [hb] at this ⊢
  · intro h
    apply Nat.eq_of_testBit_eq
    intro j
    rw [sd_bit, Nat.zero_testBit]
    cases hj : a.testBit j with
    | false => rfl
    | true => rw [h j hj]; rfl
theorem and_eq_zero {a b : Nat} : a &&& b = 0 ↔ ∀ j, a.testBit j = true → b.testBit j = false := by
  constructor
  · intro h j hj
    have := Nat.testBit_and a b j
    rw [h, Nat.zero_testBit, hj, Bool.true_and] at this
    exact this.symm
  · intro h
    apply Nat.eq_of_testBit_eq
    intro j
    rw [Nat.testBit_and, Nat.zero_testBit]
    cases hj : a.testBit j with
    | false => rfl
    | true => rw [h j hj]; rfl
theorem dn_bit (P : List Nat) (s j : Nat) : (dn P s).testBit j = true ↔ s.testBit j = true ∨ ∃ i, i < P.length ∧ s.testBit i = true ∧ (P.getD i 0).testBit j = true := by
  have H := foldFrom_inv (fun o i => if s.testBit i then o ||| P.getD i 0 else o) (fun m o => o.testBit j = true ↔ s.testBit j = true ∨ ∃ i, i < m ∧ s.testBit i = true ∧ (P.getD i 0).testBit j = true) P.length ?_ 0 s (by omega) ?_
  · exact H
  · intro i o hi hQ
    cases hb : s.testBit i with
    | true =>
      rw [if_pos rfl, Nat.testBit_or, Bool.or_eq_true, hQ]
      constructor
      · rintro ((h | ⟨i', h1, h2, h3⟩) | h)
        · exact .inl h
        · exact .inr ⟨i', by omega, h2, h3⟩
        · exact .inr ⟨i, by omega, hb, h⟩
      · rintro (h | ⟨i', h1, h2, h3⟩)
        · exact .inl (.inl h)
        · rcases Nat.lt_or_ge i' i with h4 | h4
          · exact .inl (.inr ⟨i', h4, h2, h3⟩)
          · rw [show i' = i by omega] at h3; exact .inr h3
    | false =>
      rw [if_neg (by simp), hQ]
      constructor
      · rintro (h | ⟨i', h1, h2, h3⟩)
        · exact .inl h
        · exact .inr ⟨i', by omega, h2, h3⟩
      · rintro (h | ⟨i', h1, h2, h3⟩)
        · exact .inl h
        · rcases Nat.lt_or_ge i' i with h4 | h4
          · exact .inr ⟨i', h4, h2, h3⟩
          · rw [show i' = i by omega, hb] at h2; cases h2
  · constructor
    · exact .inl
    · rintro (h | ⟨i', h1, _⟩)
      · exact h
      · omega
theorem tp_bit (P : List Nat) (s j : Nat) : (tp P s).testBit j = true ↔ s.testBit j = true ∧ ∀ i, i < P.length → s.testBit i = true → (P.getD i 0).testBit j = false := by
  have H := foldFrom_inv (fun o i => if s.testBit i then sd o (P.getD i 0) else o) (fun m o => o.testBit j = true ↔ s.testBit j = true ∧ ∀ i, i < m → s.testBit i = true → (P.getD i 0).testBit j = false) P.length ?_ 0 s (by omega) ?_
  · exact H
  · intro i o hi hQ
    cases hb : s.testBit i with
    | true =>
      rw [if_pos rfl, sd_bit, Bool.and_eq_true, hQ]
      constructor
      · rintro ⟨⟨h1, h2⟩, h3⟩
        refine ⟨h1, fun i' hi' hs' => ?_⟩
        rcases Nat.lt_or_ge i' i with h4 | h4
        · exact h2 i' h4 hs'
        · rw [show i' = i by omega]; simpa using h3
      · rintro ⟨h1, h2⟩
        exact ⟨⟨h1, fun i' hi' => h2 i' (by omega)⟩, by simpa using h2 i (by omega) hb⟩
    | false =>
      rw [if_neg (by simp), hQ]
      constructor
      · rintro ⟨h1, h2⟩
        refine ⟨h1, fun i' hi' hs' => ?_⟩
        rcases Nat.lt_or_ge i' i with h4 | h4
        · exact h2 i' h4 hs'
        · rw [show i' = i by omega, hb] at hs'; cases hs'
      · rintro ⟨h1, h2⟩
        exact ⟨h1, fun i' hi' => h2 i' (by omega)⟩
  · exact ⟨fun h => ⟨h, fun i hi => absurd hi (by omega)⟩, fun h => h.1⟩
theorem bm_bit (P : List Nat) (s j : Nat) : (bm P s).testBit j = true ↔ j < P.length ∧ s.testBit j = true ∧ P.getD j 0 &&& s = 0 := by
  have H := foldFrom_inv (fun o i => if s.testBit i then (if P.getD i 0 &&& s = 0 then o ||| 2 ^ i else o) else o) (fun m o => o.testBit j = true ↔ j < m ∧ s.testBit j = true ∧ P.getD j 0 &&& s = 0) P.length ?_ 0 0 (by omega) ?_
  · exact H
  · intro i o hi hQ
    cases hb : s.testBit i with
    | true =>
      by_cases h0 : P.getD i 0 &&& s = 0
      · simp only [h0, if_true]
        rw [Nat.testBit_or, Bool.or_eq_true, hQ, Nat.testBit_two_pow, decide_eq_true_eq]
        constructor
        · rintro (⟨h1, h2⟩ | rfl)
          · exact ⟨by omega, h2⟩
          · exact ⟨by omega, hb, h0⟩
        · rintro ⟨h1, h2⟩
          rcases Nat.lt_or_ge j i with h4 | h4
          · exact .inl ⟨h4, h2⟩
          · exact .inr (by omega)
      · simp only [h0, if_true, if_false]
        rw [hQ]
        constructor
        · rintro ⟨h1, h2⟩; exact ⟨by omega, h2⟩
        · rintro ⟨h1, h2, h3⟩
          rcases Nat.lt_or_ge j i with h4 | h4
          · exact ⟨h4, h2, h3⟩
          · rw [show j = i by omega] at h3; exact absurd h3 h0
    | false =>
      simp only [Bool.false_eq_true, if_false]
      rw [hQ]
      constructor
      · rintro ⟨h1, h2⟩; exact ⟨by omega, h2⟩
      · rintro ⟨h1, h2, h3⟩
        rcases Nat.lt_or_ge j i with h4 | h4
        · exact ⟨h4, h2, h3⟩
        · rw [show j = i by omega, hb] at h2; cases h2
  · simp
theorem idl_iff (P : List Nat) (s : Nat) : idl P s = true ↔ ∀ i, i < P.length → s.testBit i = true → ∀ j, (P.getD i 0).testBit j = true → s.testBit j = true := by
  unfold idl
  rw [allFrom_iff]
  constructor
  · intro h i hi hs
    have := h i (by omega) hi
    rw [hs] at this
    simp only [Bool.not_true, Bool.false_or, decide_eq_true_eq] at this
    exact sd_eq_zero.1 this
  · intro h i _ hi
    cases hs : s.testBit i with
    | false => simp
    | true => rw [decide_eq_true (sd_eq_zero.2 (h i hi hs))]; rfl
theorem idl_dn (P : List Nat) (s : Nat) : idl P s = decide (dn P s = s) := by
  rw [Bool.eq_iff_iff, idl_iff, decide_eq_true_eq]
  constructor
  · intro h
    apply Nat.eq_of_testBit_eq
    intro j
    rw [Bool.eq_iff_iff, dn_bit]
    constructor
    · rintro (h1 | ⟨i, h1, h2, h3⟩)
      · exact h1
      · exact h i h1 h2 j h3
    · exact .inl
  · intro h i hi hs j hj
    rw [← h, dn_bit]
    exact .inr ⟨i, hi, hs, hj⟩
theorem lt_of_bits {x n : Nat} (h : ∀ j, x.testBit j = true → j < n) : x < 2 ^ n := by
  apply Nat.lt_pow_two_of_testBit
  intro i hi
  cases hb : x.testBit i with
  | false => rfl
  | true => have := h i hb; omega
end Go.Proofs.Ytkdddlkhildliaa.M

/-! ### G -/
/- What the small functions on posets answer, and which posets are good: the reference's test and the program's test are one. -/
namespace Go.Proofs.Ytkdddlkhildliaa.B
open Go.RowKit Go.Proofs.Ytkdddlkhildliaa.M Go.Proofs.YtkdddlkhildliaaW.PrintWords Go.Proofs.YtkdddlkhildliaaW.PrintLast Go.Proofs.YtkdddlkhildliaaW.PrintMore

attribute [local irreducible] Go.bits shl shr sd
/-! ### small functions -/
theorem l1In_is (a b c : Int) : spec_l1In.f a b c = some (decide (b ≤ a ∧ a ≤ c)) := by
  unfold spec_l1In.f
  by_cases h : a ≥ b
  · rw [if_pos h]; simp [show b ≤ a from h]
  · rw [if_neg h]; simp [show ¬ b ≤ a from h]
theorem within_is (a b c : Int) : impl_within.f a b c = some (decide (b ≤ a ∧ a ≤ c)) := by
  unfold impl_within.f
  by_cases h : b ≤ a
  · rw [if_pos h]; simp [h]
  · rw [if_neg h]; simp [h]
theorem has_is {s e : Nat} (hs : s < 2 ^ 63) (he : e ≤ 64) : impl_has.f (s : Int) (e : Int) = some (s.testBit e) := by
  unfold impl_has.f
  rw [if_pos (by omega)]
  congr 1
  have := bit_and1 hs he
  cases hb : s.testBit e
  · rw [hb] at this; simpa using this
  · rw [hb] at this; simpa using this
theorem items_l0 {s : Nat} (hs : s < 2 ^ 63) : ∀ (e : Nat) (_ : Unit), e ≤ 10 → True →
    Ev (fun k => impl_items.l0 k (s : Int) ((itemsUpto s e).map (fun x : Nat => (x : Int))) (e : Int)) ((items s).map (fun x : Nat => (x : Int))) := by
  have H : ∀ (e : Nat) (st : List Int), e ≤ 10 → st = (itemsUpto s e).map (fun x : Nat => (x : Int)) → Ev (fun k => impl_items.l0 k (s : Int) st (e : Int)) ((items s).map (fun x : Nat => (x : Int))) := by
    refine ev_down (fun k (st : List Int) e => impl_items.l0 k (s : Int) st e) (fun _ _ => (items s).map (fun x : Nat => (x : Int))) 10 (fun e st => st = (itemsUpto s e).map (fun x : Nat => (x : Int))) ?_ ?_
    · rintro st rfl
      exact ev_step (Ev.now _) (fun k => by simp only [impl_items.l0]; rw [if_neg (by omega)]; rfl)
    · rintro e st he rfl ih
      have hl : (itemsUpto s e).length ≤ e := by unfold itemsUpto; exact Nat.le_trans (List.length_filter_le _ _) (by simp)
      have hw : wrap64 ((e : Int) + 1) = (e : Int) + 1 := wrap64_id (by omega) (by omega)
      have hn : itemsUpto s (e + 1) = itemsUpto s e ++ (if s.testBit e then [e] else []) := by
        unfold itemsUpto
        rw [List.range_succ, List.filter_append]
        cases h : s.testBit e <;> simp [h]
      cases hb : s.testBit e with
      | true =>
        refine ev_step (ih _ rfl) (fun k => ?_)
        simp only [impl_items.l0]
        rw [if_pos (by omega), has_is hs (by omega), hb, Option.bind_some, if_pos rfl, if_pos (by rw [List.length_map]; omega), hw, hn, hb, if_pos rfl, List.map_append]
        rfl
      | false =>
        refine ev_step (ih _ rfl) (fun k => ?_)
        simp only [impl_items.l0]
        rw [if_pos (by omega), has_is hs (by omega), hb, Option.bind_some, if_neg (by decide), hw, hn, hb, if_neg (by decide), List.append_nil]
  exact fun e _ he _ => H e _ he rfl
theorem items_ev {s : Nat} (hs : s < 2 ^ 63) : Ev (fun k => impl_items.f k (s : Int)) ((items s).map (fun x : Nat => (x : Int))) := by
  unfold impl_items.f
  have := items_l0 hs 0 () (by omega) trivial
  simpa [itemsUpto] using this

/-! ### good posets -/
def cellB (l : List Int) (i j : Nat) : Bool := !((l.getD i 0).toNat.testBit j) || decide (sd (l.getD j 0).toNat (l.getD i 0).toNat = 0)
def rowB (l : List Int) (i : Nat) : Bool := decide (0 ≤ l.getD i 0 ∧ l.getD i 0 ≤ ((2 ^ i - 1 : Nat) : Int)) && allFrom (cellB l i) 0 i
def goodB (l : List Int) : Bool := decide (1 ≤ (l.length : Int) ∧ (l.length : Int) ≤ 10) && allFrom (rowB l) 0 l.length
theorem rowB_bound {l : List Int} {i : Nat} (h : rowB l i = true) : ∃ x : Nat, l.getD i 0 = (x : Int) ∧ x < 2 ^ i := by
  unfold rowB at h
  rw [Bool.and_eq_true, decide_eq_true_eq] at h
  have := Nat.one_le_two_pow (n := i)
  exact ⟨(l.getD i 0).toNat, by omega, by omega⟩
theorem p63 {x i : Nat} (h : x < 2 ^ i) (hi : i ≤ 62) : x < 2 ^ 63 := Nat.lt_of_lt_of_le h (two_pow_le (by omega))
theorem sd_zero_nat {a b : Nat} : ((sd a b : Nat) : Int) = 0 ↔ sd a b = 0 := by omega

theorem poGood_l1 (l : List Int) (i : Nat) (hn : l.length ≤ 10) (hi : i < l.length) (hp : ∀ j, j < i → rowB l j = true) {x : Nat} (hx : l.getD i 0 = (x : Int)) (hxi : x < 2 ^ i) (r : Bool)
    (hnext : (∀ j, j < i → cellB l i j = true) → Ev (fun k => spec_poGood.l0 k l (l.length : Int) ((i : Int) + 1) l) r) :
    ∀ (j : Nat) (_ : Unit), j ≤ i → (∀ j', j' < j → cellB l i j' = true) → Ev (fun k => spec_poGood.l1 k (i : Int) (x : Int) (j : Int) l (l.length : Int) (i : Int) l) (allFrom (cellB l i) j i && r) := by
  refine ev_down (fun k (_ : Unit) j => spec_poGood.l1 k (i : Int) (x : Int) j l (l.length : Int) (i : Int) l) (fun j _ => allFrom (cellB l i) j i && r) i (fun j _ => ∀ j', j' < j → cellB l i j' = true) ?_ ?_
  · intro _ hall
    rw [allFrom_end, Bool.true_and]
    exact ev_step (hnext hall) (fun k => by simp only [spec_poGood.l1]; rw [if_neg (by omega), wrap64_id (by omega) (by omega)])
  · intro j _ hj hall ih
    have hw : wrap64 ((j : Int) + 1) = (j : Int) + 1 := wrap64_id (by omega) (by omega)
    obtain ⟨y, hy, hyj⟩ := rowB_bound (hp j hj)
    have hc : cellB l i j = (!(x.testBit j) || decide (sd y x = 0)) := by unfold cellB; rw [hx, hy, Int.toNat_natCast, Int.toNat_natCast]
    have hb := bit_tmod (s := x) (i := j) (by omega)
    have c1 : (j : Int) < (i : Int) := by omega
    have c2 : 0 ≤ (j : Int) := by omega
    have c3 : (j : Int) < (l.length : Int) := by omega
    have ih' : cellB l i j = true → Ev (fun k => spec_poGood.l1 k (i : Int) (x : Int) ((j : Int) + 1) l (l.length : Int) (i : Int) l) (allFrom (cellB l i) (j + 1) i && r) := fun h =>
      ih () (fun j' hj' => by rcases Nat.lt_or_ge j' j with h1 | h1; exact hall j' h1; rw [show j' = j by omega]; exact h)
    have hz := andNot_nat (p63 hyj (by omega)) (p63 hxi (by omega))
    rw [allFrom_step _ hj]
    cases hbit : x.testBit j with
    | true =>
      have hb1 := hb.2 hbit
      by_cases h0 : sd y x = 0
      · have hcj : cellB l i j = true := by rw [hc, h0]; simp
        rw [hcj, Bool.true_and]
        exact ev_step (ih' hcj) (fun k => by simp only [spec_poGood.l1]; rw [if_pos c1, if_pos c2, if_pos hb1, if_pos c3, rd_nat, hy, hz, if_pos (sd_zero_nat.2 h0), hw])
      · have hcj : cellB l i j = false := by rw [hc, hbit]; simp [h0]
        rw [hcj, Bool.false_and, Bool.false_and]
        exact ev_step (Ev.now _) (fun k => by simp only [spec_poGood.l1]; rw [if_pos c1, if_pos c2, if_pos hb1, if_pos c3, rd_nat, hy, hz, if_neg (fun h => h0 (sd_zero_nat.1 h))])
    | false =>
      have hb1 : ¬ (Int.tmod (shr .i64 (x : Int) (j : Int)) 2 = 1) := fun h => by rw [hb.1 h] at hbit; cases hbit
      have hcj : cellB l i j = true := by rw [hc, hbit]; simp
      rw [hcj, Bool.true_and]
      exact ev_step (ih' hcj) (fun k => by simp only [spec_poGood.l1]; rw [if_pos c1, if_pos c2, if_neg hb1, hw])
theorem poGood_l0 (l : List Int) (hn : l.length ≤ 10) : ∀ (i : Nat) (_ : Unit), i ≤ l.length → (∀ j, j < i → rowB l j = true) → Ev (fun k => spec_poGood.l0 k l (l.length : Int) (i : Int) l) (allFrom (rowB l) i l.length) := by
  refine ev_down (fun k (_ : Unit) i => spec_poGood.l0 k l (l.length : Int) i l) (fun i _ => allFrom (rowB l) i l.length) l.length (fun i _ => ∀ j, j < i → rowB l j = true) ?_ ?_
  · intro _ _
    rw [allFrom_end]
    exact ev_step (Ev.now _) (fun k => by simp only [spec_poGood.l0]; rw [if_neg (by omega)])
  · intro i _ hi hp ih
    have hm := mask_sub (i := i) (by omega)
    have c1 : (i : Int) < (l.length : Int) := by omega
    have c2 : 0 ≤ (i : Int) := by omega
    rw [allFrom_step _ hi]
    by_cases hb : 0 ≤ l.getD i 0 ∧ l.getD i 0 ≤ ((2 ^ i - 1 : Nat) : Int)
    · have h1 := Nat.one_le_two_pow (n := i)
      obtain ⟨x, hx⟩ : ∃ x : Nat, l.getD i 0 = (x : Int) := ⟨(l.getD i 0).toNat, by omega⟩
      have hxi : x < 2 ^ i := by omega
      have hr : rowB l i = allFrom (cellB l i) 0 i := by unfold rowB; rw [decide_eq_true hb, Bool.true_and]
      rw [hr]
      refine ev_step (poGood_l1 l i hn hi hp hx hxi (allFrom (rowB l) (i + 1) l.length) (fun hall => ih () (fun j hj => ?_)) 0 () (by omega) (fun _ h => absurd h (by omega))) (fun k => ?_)
      · rcases Nat.lt_or_ge j i with h | h
        · exact hp j h
        · rw [show j = i by omega, hr]
          exact (allFrom_iff _ _ _).2 (fun j' _ h2 => hall j' h2)
      · simp only [spec_poGood.l0]
        rw [if_pos c1, if_pos c2, if_pos c1, rd_nat, hm, l1In_is, decide_eq_true hb, hx, Option.bind_some, if_pos rfl]
        rfl
    · have hr : rowB l i = false := by unfold rowB; rw [decide_eq_false hb, Bool.false_and]
      rw [hr, Bool.false_and]
      exact ev_step (Ev.now _) (fun k => by simp only [spec_poGood.l0]; rw [if_pos c1, if_pos c2, if_pos c1, rd_nat, hm, l1In_is, decide_eq_false hb, Option.bind_some, if_neg (by decide)])
theorem poGood_ev (l : List Int) : Ev (fun k => spec_poGood.f k l) (goodB l) := by
  unfold spec_poGood.f goodB
  rw [l1In_is]
  by_cases h : 1 ≤ (l.length : Int) ∧ (l.length : Int) ≤ 10
  · rw [decide_eq_true h, Bool.true_and]
    exact ev_as (poGood_l0 l (by omega) 0 () (by omega) (fun _ h => absurd h (by omega))) (fun k => by rw [Option.bind_some, if_pos rfl]; rfl)
  · rw [decide_eq_false h, Bool.false_and]
    exact ev_as (Ev.now _) (fun k => by rw [Option.bind_some, if_neg (by decide)])
abbrev cast (P : List Nat) : List Int := P.map (fun x : Nat => (x : Int))
theorem cast_length (P : List Nat) : ((cast P).length : Int) = (P.length : Int) := by simp
/-- What the program asks of the elements below one. -/
def subB (l : List Int) (x j : Nat) : Bool := decide (sd (l.getD j 0).toNat x = 0)
theorem IsPoset_l1 (l : List Int) (i : Nat) (hn : l.length ≤ 10) (hi : i < l.length) (hp : ∀ j, j < i → rowB l j = true) {x : Nat} (hxi : x < 2 ^ i) (r : Bool)
    (hnext : (∀ j, j ∈ items x → subB l x j = true) → Ev (fun k => impl_IsPoset.l0 k l (l.length : Int) ((i : Int) + 1) l) r) :
    ∀ (e : Nat) (_ : Unit), e ≤ (items x).length → (∀ j, j ∈ (items x).take e → subB l x j = true) →
      Ev (fun k => impl_IsPoset.l1 k (x : Int) l (l.length : Int) (i : Int) (cast (items x)) ((cast (items x)).length : Int) (e : Int) l) (((items x).drop e).all (subB l x) && r) := by
  have hlen : (items x).length ≤ 10 := by unfold items; exact Nat.le_trans (List.length_filter_le _ _) (by simp)
  refine ev_down (fun k (_ : Unit) e => impl_IsPoset.l1 k (x : Int) l (l.length : Int) (i : Int) (cast (items x)) ((cast (items x)).length : Int) e l) (fun e _ => ((items x).drop e).all (subB l x) && r) (items x).length (fun e _ => ∀ j, j ∈ (items x).take e → subB l x j = true) ?_ ?_
  · intro _ hall
    rw [List.drop_length, List.all_nil, Bool.true_and]
    exact ev_step (hnext (fun j hj => hall j (by rw [List.take_length]; exact hj))) (fun k => by simp only [impl_IsPoset.l1]; rw [if_neg (by rw [cast_length]; omega), wrap64_id (by omega) (by omega)])
  · intro e _ he hall ih
    have hw : wrap64 ((e : Int) + 1) = (e : Int) + 1 := wrap64_id (by omega) (by omega)
    obtain ⟨j, hj⟩ : ∃ j, (items x).getD e 0 = j := ⟨_, rfl⟩
    have hmem : j ∈ items x := by rw [← hj, List.getD_eq_getElem?_getD, List.getElem?_eq_getElem he, Option.getD_some]; exact List.getElem_mem he
    have hji : j < i := bit_lt hxi (mem_items.1 hmem).2
    obtain ⟨y, hy, hyj⟩ := rowB_bound (hp j hji)
    have c1 : (e : Int) < ((cast (items x)).length : Int) := by rw [cast_length]; omega
    have c2 : 0 ≤ (e : Int) := by omega
    have c3 : (e : Int) < ((cast (items x)).length : Int) := by rw [cast_length]; omega
    have c4 : 0 ≤ (j : Int) := by omega
    have c5 : (j : Int) < (l.length : Int) := by omega
    have hs : subB l x j = decide (sd y x = 0) := by unfold subB; rw [hy, Int.toNat_natCast]
    have hz := andNot_nat (p63 hyj (by omega)) (p63 hxi (by omega))
    rw [drop_step (items x) 0 he, hj, List.all_cons]
    by_cases h0 : sd y x = 0
    · have hsj : subB l x j = true := by rw [hs, h0]; simp
      rw [hsj, Bool.true_and]
      refine ev_step (ih () (fun j' hj' => ?_)) (fun k => ?_)
      · rw [List.take_add_one, List.mem_append] at hj'
        rcases hj' with h1 | h1
        · exact hall j' h1
        · rw [List.getElem?_eq_getElem he] at h1
          have : j' = j := by rw [← hj, List.getD_eq_getElem?_getD, List.getElem?_eq_getElem he]; simpa using h1
          rw [this]; exact hsj
      · simp only [impl_IsPoset.l1]
        rw [if_pos c1, if_pos c2, if_pos c3, rd_cast, hj, if_pos c4, if_pos c5, rd_nat, hy, hz, if_pos (sd_zero_nat.2 h0), hw]
    · have hsj : subB l x j = false := by rw [hs]; simp [h0]
      rw [hsj, Bool.false_and, Bool.false_and]
      refine ev_step (Ev.now _) (fun k => ?_)
      simp only [impl_IsPoset.l1]
      rw [if_pos c1, if_pos c2, if_pos c3, rd_cast, hj, if_pos c4, if_pos c5, rd_nat, hy, hz, if_neg (fun h => h0 (sd_zero_nat.1 h))]
theorem cell_sub (l : List Int) {i x : Nat} (hi : i ≤ 10) (hx : l.getD i 0 = (x : Int)) (hxi : x < 2 ^ i) : (items x).all (subB l x) = allFrom (cellB l i) 0 i := by
  rw [all_items _ hxi hi]
  congr 1
  funext j
  unfold cellB subB
  rw [hx, Int.toNat_natCast]
theorem IsPoset_l0 (l : List Int) (hn : l.length ≤ 10) : ∀ (i : Nat) (_ : Unit), i ≤ l.length → (∀ j, j < i → rowB l j = true) → Ev (fun k => impl_IsPoset.l0 k l (l.length : Int) (i : Int) l) (allFrom (rowB l) i l.length) := by
  refine ev_down (fun k (_ : Unit) i => impl_IsPoset.l0 k l (l.length : Int) i l) (fun i _ => allFrom (rowB l) i l.length) l.length (fun i _ => ∀ j, j < i → rowB l j = true) ?_ ?_
  · intro _ _
    rw [allFrom_end]
    exact ev_step (Ev.now _) (fun k => by simp only [impl_IsPoset.l0]; rw [if_neg (by omega)])
  · intro i _ hi hp ih
    have hm := mask_sub (i := i) (by omega)
    have c1 : (i : Int) < (l.length : Int) := by omega
    have c2 : 0 ≤ (i : Int) := by omega
    rw [allFrom_step _ hi]
    by_cases hb : 0 ≤ l.getD i 0 ∧ l.getD i 0 ≤ ((2 ^ i - 1 : Nat) : Int)
    · have h1 := Nat.one_le_two_pow (n := i)
      obtain ⟨x, hx⟩ : ∃ x : Nat, l.getD i 0 = (x : Int) := ⟨(l.getD i 0).toNat, by omega⟩
      have hxi : x < 2 ^ i := by omega
      have hr : rowB l i = allFrom (cellB l i) 0 i := by unfold rowB; rw [decide_eq_true hb, Bool.true_and]
      have hsub := cell_sub l (by omega) hx hxi
      have hgo := IsPoset_l1 l i hn hi hp hxi (allFrom (rowB l) (i + 1) l.length) (fun hall => ih () (fun j hj => by
        rcases Nat.lt_or_ge j i with h | h
        · exact hp j h
        · rw [show j = i by omega, hr, ← hsub]
          exact List.all_eq_true.2 hall)) 0 () (by omega) (fun _ h => absurd h (by simp))
      rw [List.drop_zero, hsub] at hgo
      rw [hr]
      refine ev_stepb (F := fun k t => impl_IsPoset.l1 k (x : Int) l (l.length : Int) (i : Int) t (t.length : Int) 0 l) (items_ev (p63 hxi (by omega))) hgo (fun k => ?_)
      simp only [impl_IsPoset.l0]
      rw [if_pos c1, if_pos c2, if_pos c1, rd_nat, hm, within_is, decide_eq_true hb, hx, Option.bind_some, if_pos rfl]
    · have hr : rowB l i = false := by unfold rowB; rw [decide_eq_false hb, Bool.false_and]
      rw [hr, Bool.false_and]
      exact ev_step (Ev.now _) (fun k => by simp only [impl_IsPoset.l0]; rw [if_pos c1, if_pos c2, if_pos c1, rd_nat, hm, within_is, decide_eq_false hb, Option.bind_some, if_neg (by decide)])
theorem IsPoset_ev (l : List Int) : Ev (fun k => impl_IsPoset.f k l) (goodB l) := by
  unfold impl_IsPoset.f impl_Poset_n.f goodB
  by_cases h : 1 ≤ (l.length : Int) ∧ (l.length : Int) ≤ 10
  · rw [decide_eq_true h, Bool.true_and]
    exact ev_as (IsPoset_l0 l (by omega) 0 () (by omega) (fun _ h => absurd h (by omega))) (fun k => by rw [Option.bind_some, within_is, decide_eq_true h, Option.bind_some, if_pos rfl]; rfl)
  · rw [decide_eq_false h, Bool.false_and]
    exact ev_as (Ev.now _) (fun k => by rw [Option.bind_some, within_is, decide_eq_false h, Option.bind_some, if_neg (by decide)])

/-! ### a good poset as natural numbers -/
structure Good (l : List Int) (P : List Nat) : Prop where
  eq : l = cast P
  n1 : 1 ≤ P.length
  n10 : P.length ≤ 10
  lt : ∀ i, i < P.length → P.getD i 0 < 2 ^ i
  tr : ∀ i, i < P.length → ∀ j, (P.getD i 0).testBit j = true → sd (P.getD j 0) (P.getD i 0) = 0
theorem good_of {l : List Int} (h : goodB l = true) : ∃ P, Good l P := by
  unfold goodB at h
  rw [Bool.and_eq_true, decide_eq_true_eq, allFrom_iff] at h
  obtain ⟨hl, hr⟩ := h
  refine ⟨l.map Int.toNat, ?_, by simp; omega, by simp; omega, ?_, ?_⟩
  · unfold cast
    rw [List.map_map]
    apply List.ext_getElem
    · simp
    · intro i h1 h2
      obtain ⟨x, hx, _⟩ := rowB_bound (hr i (by omega) h1)
      rw [List.getD_eq_getElem?_getD, List.getElem?_eq_getElem h1, Option.getD_some] at hx
      simp [hx]
  · intro i hi
    rw [List.length_map] at hi
    obtain ⟨x, hx, hxi⟩ := rowB_bound (hr i (by omega) hi)
    have : (l.map Int.toNat).getD i 0 = x := by
      rw [List.getD_eq_getElem?_getD, List.getElem?_map]
      rw [List.getD_eq_getElem?_getD] at hx
      rw [List.getElem?_eq_getElem hi] at hx ⊢
      simp at hx ⊢
      omega
    rw [this]; exact hxi
  · intro i hi j hj
    rw [List.length_map] at hi
    have hD : ∀ e, (l.map Int.toNat).getD e 0 = (l.getD e 0).toNat := fun e => by
      simp only [List.getD_eq_getElem?_getD, List.getElem?_map]
      cases l[e]? <;> simp
    rw [hD] at hj ⊢
    rw [hD]
    have h2 := hr i (by omega) hi
    obtain ⟨x, hx, hxi⟩ := rowB_bound h2
    unfold rowB at h2
    rw [Bool.and_eq_true, allFrom_iff] at h2
    have hji : j < i := by rw [hx, Int.toNat_natCast] at hj; exact bit_lt hxi hj
    have h3 := h2.2 j (by omega) hji
    unfold cellB at h3
    rw [hj] at h3
    simpa using h3
theorem Good.length {l : List Int} {P : List Nat} (h : Good l P) : (l.length : Int) = (P.length : Int) := by rw [h.eq]; simp
theorem Good.lt63 {l : List Int} {P : List Nat} (h : Good l P) (i : Nat) : P.getD i 0 < 2 ^ 63 := by
  rcases Nat.lt_or_ge i P.length with h1 | h1
  · exact p63 (h.lt i h1) (by have := h.n10; omega)
  · rw [List.getD_eq_getElem?_getD, List.getElem?_eq_none h1]; decide
theorem Good.ltn {l : List Int} {P : List Nat} (h : Good l P) (i : Nat) : P.getD i 0 < 2 ^ P.length := by
  rcases Nat.lt_or_ge i P.length with h1 | h1
  · exact Nat.lt_of_lt_of_le (h.lt i h1) (two_pow_le (by omega))
  · rw [List.getD_eq_getElem?_getD, List.getElem?_eq_none h1]; exact Nat.two_pow_pos _
end Go.Proofs.Ytkdddlkhildliaa.B

/-! ### Mrow -/
/- Toggles and rowmotion as plain laws on sets told by their bits. -/
namespace Go.Proofs.Ytkdddlkhildliaa.B
open Go.Proofs.Ytkdddlkhildliaa.M
/-- A set toggled at an element. -/
def tog (P : List Nat) (s e : Nat) : Nat := if idl P (s ^^^ 2 ^ e) then s ^^^ 2 ^ e else s
theorem tog_lt {P : List Nat} {s e : Nat} (hs : s < 2 ^ P.length) (he : e < P.length) : tog P s e < 2 ^ P.length := by
  unfold tog
  split
  · exact Nat.xor_lt_two_pow hs (Nat.pow_lt_pow_right (by decide) he)
  · exact hs
theorem xor_bit (s e j : Nat) : (s ^^^ 2 ^ e).testBit j = if e = j then !s.testBit j else s.testBit j := by
  rw [Nat.testBit_xor, Nat.testBit_two_pow]
  by_cases h : e = j
  · simp [h]
  · simp [h]
theorem tog_idl {P : List Nat} {s e : Nat} (hs : idl P s = true) : idl P (tog P s e) = true := by
  unfold tog
  split
  · assumption
  · exact hs
/-- The ideal behind rowmotion. -/
def rw_ (P : List Nat) (s : Nat) : Nat := dn P (bm P (sd (2 ^ P.length - 1) s))
/-- The ideal whose rowmotion it is: what lies above nothing that is greatest in it. -/
def bk (P : List Nat) (s : Nat) : Nat := foldFrom (fun o i => if (tp P s).testBit i then o else (if P.getD i 0 &&& tp P s = 0 then o ||| 2 ^ i else o)) 0 P.length 0
theorem bk_bit (P : List Nat) (s j : Nat) : (bk P s).testBit j = true ↔ j < P.length ∧ (tp P s).testBit j = false ∧ ∀ i, (P.getD j 0).testBit i = true → (tp P s).testBit i = false := by
  have H := foldFrom_inv (fun o i => if (tp P s).testBit i then o else (if P.getD i 0 &&& tp P s = 0 then o ||| 2 ^ i else o)) (fun m o => o.testBit j = true ↔ j < m ∧ (tp P s).testBit j = false ∧ P.getD j 0 &&& tp P s = 0) P.length ?_ 0 0 (by omega) ?_
  · rw [← and_eq_zero]; exact H
  · intro i o hi hQ
    cases hb : (tp P s).testBit i with
    | false =>
      by_cases h0 : P.getD i 0 &&& tp P s = 0
      · simp only [h0, Bool.false_eq_true, if_true, if_false]
        rw [Nat.testBit_or, Bool.or_eq_true, hQ, Nat.testBit_two_pow, decide_eq_true_eq]
        constructor
        · rintro (⟨h1, h2⟩ | rfl)
          · exact ⟨by omega, h2⟩
          · exact ⟨by omega, hb, h0⟩
        · rintro ⟨h1, h2⟩
          rcases Nat.lt_or_ge j i with h4 | h4
          · exact .inl ⟨h4, h2⟩
          · exact .inr (by omega)
      · simp only [h0, Bool.false_eq_true, if_false]
        rw [hQ]
        constructor
        · rintro ⟨h1, h2⟩; exact ⟨by omega, h2⟩
        · rintro ⟨h1, h2, h3⟩
          rcases Nat.lt_or_ge j i with h4 | h4
          · exact ⟨h4, h2, h3⟩
          · rw [show j = i by omega] at h3; exact absurd h3 h0
    | true =>
      simp only [if_true]
      rw [hQ]
      constructor
      · rintro ⟨h1, h2⟩; exact ⟨by omega, h2⟩
      · rintro ⟨h1, h2, h3⟩
        rcases Nat.lt_or_ge j i with h4 | h4
        · exact ⟨h4, h2, h3⟩
        · rw [show j = i by omega, hb] at h2; cases h2
  · simp
theorem bk_lt (P : List Nat) (s : Nat) : bk P s < 2 ^ P.length := lt_of_bits (fun j hj => ((bk_bit P s j).1 hj).1)
section
variable {l : List Int} {P : List Nat} (hP : Good l P)
include hP
theorem below_lt {i j : Nat} (h : (P.getD i 0).testBit j = true) : j < i ∧ i < P.length := by
  rcases Nat.lt_or_ge i P.length with h1 | h1
  · exact ⟨bit_lt (hP.lt i h1) h, h1⟩
  · rw [List.getD_eq_getElem?_getD, List.getElem?_eq_none h1] at h
    simp at h
theorem below_trans {i j k : Nat} (h : (P.getD i 0).testBit j = true) (h2 : (P.getD j 0).testBit k = true) : (P.getD i 0).testBit k = true := by
  have := hP.tr i (below_lt hP h).2 j h
  exact sd_eq_zero.1 this k h2
theorem idl_closed {s : Nat} (h : idl P s = true) {i j : Nat} (hs : s.testBit i = true) (hj : (P.getD i 0).testBit j = true) : s.testBit j = true :=
  (idl_iff P s).1 h i (below_lt hP hj).2 hs j hj
theorem dn_idl (s : Nat) : idl P (dn P s) = true := by
  rw [idl_iff]
  intro i hi hs j hj
  rw [dn_bit] at hs ⊢
  rcases hs with h | ⟨i', h1, h2, h3⟩
  · exact .inr ⟨i, hi, h, hj⟩
  · exact .inr ⟨i', h1, h2, below_trans hP h3 hj⟩
theorem dn_lt {s : Nat} (hs : s < 2 ^ P.length) : dn P s < 2 ^ P.length := by
  apply lt_of_bits
  intro j hj
  rw [dn_bit] at hj
  rcases hj with h | ⟨i, h1, h2, h3⟩
  · exact bit_lt hs h
  · have := below_lt hP h3; omega
omit hP in
theorem tp_lt {s : Nat} (hs : s < 2 ^ P.length) : tp P s < 2 ^ P.length := lt_of_bits (fun j hj => bit_lt hs ((tp_bit P s j).1 hj).1)
omit hP in
theorem bm_lt (s : Nat) : bm P s < 2 ^ P.length := lt_of_bits (fun j hj => ((bm_bit P s j).1 hj).1)
theorem rw_lt (s : Nat) : rw_ P s < 2 ^ P.length := dn_lt hP (bm_lt _)
theorem rw_idl (s : Nat) : idl P (rw_ P s) = true := dn_idl hP _
theorem bk_idl (s : Nat) : idl P (bk P s) = true := by
  rw [idl_iff]
  intro i hi hs j hj
  rw [bk_bit] at hs ⊢
  exact ⟨by have := below_lt hP hj; omega, hs.2.2 j hj, fun i' hi' => hs.2.2 i' (below_trans hP hj hi')⟩
omit hP in
theorem all_bit {n j : Nat} {s : Nat} : (sd (2 ^ n - 1) s).testBit j = true ↔ j < n ∧ s.testBit j = false := by
  rw [sd_bit, Nat.testBit_two_pow_sub_one, Bool.and_eq_true, decide_eq_true_eq, Bool.not_eq_true']
/-- Each element outside of an ideal lies over a least one, or is one. -/
theorem least_below {s : Nat} {j : Nat} (hj : j < P.length) (hs : s.testBit j = false) : ∃ i, (bm P (sd (2 ^ P.length - 1) s)).testBit i = true ∧ (i = j ∨ (P.getD j 0).testBit i = true) := by
  induction j using Nat.strongRecOn with
  | _ j ih =>
    by_cases h : ∃ i, (P.getD j 0).testBit i = true ∧ s.testBit i = false
    · obtain ⟨i, h1, h2⟩ := h
      have hl := below_lt hP h1
      obtain ⟨i', h3, h4⟩ := ih i hl.1 (by omega) h2
      refine ⟨i', h3, .inr ?_⟩
      rcases h4 with rfl | h4
      · exact h1
      · exact below_trans hP h1 h4
    · refine ⟨j, ?_, .inl rfl⟩
      rw [bm_bit, all_bit, and_eq_zero]
      refine ⟨hj, ⟨hj, hs⟩, fun i hi => ?_⟩
      cases hc : (sd (2 ^ P.length - 1) s).testBit i with
      | false => rfl
      | true => exact absurd ⟨i, hi, (all_bit.1 hc).2⟩ h
/-- Each element of an ideal lies below a greatest one, or is one. -/
theorem greatest_above {s : Nat} (hsl : s < 2 ^ P.length) {j : Nat} (hs : s.testBit j = true) : ∃ i, (tp P s).testBit i = true ∧ (i = j ∨ (P.getD i 0).testBit j = true) := by
  obtain ⟨d, hd⟩ : ∃ d, P.length - j = d := ⟨_, rfl⟩
  induction d using Nat.strongRecOn generalizing j with
  | _ d ih =>
    have hjn := bit_lt hsl hs
    by_cases h : ∃ i, i < P.length ∧ s.testBit i = true ∧ (P.getD i 0).testBit j = true
    · obtain ⟨i, h1, h2, h3⟩ := h
      have hl := below_lt hP h3
      obtain ⟨i', h4, h5⟩ := ih (P.length - i) (by omega) h2 rfl
      refine ⟨i', h4, .inr ?_⟩
      rcases h5 with rfl | h5
      · exact h3
      · exact below_trans hP h5 h3
    · refine ⟨j, ?_, .inl rfl⟩
      rw [tp_bit]
      refine ⟨hs, fun i hi hsi => ?_⟩
      cases hc : (P.getD i 0).testBit j with
      | false => rfl
      | true => exact absurd ⟨i, hi, hsi, hc⟩ h
/-- The greatest elements of the ideal behind rowmotion are the least ones outside. -/
theorem tp_rw {s : Nat} (j : Nat) : (tp P (rw_ P s)).testBit j = (bm P (sd (2 ^ P.length - 1) s)).testBit j := by
  rw [Bool.eq_iff_iff, tp_bit]
  unfold rw_
  constructor
  · rintro ⟨h1, h2⟩
    rw [dn_bit] at h1
    rcases h1 with h1 | ⟨i, h3, h4, h5⟩
    · exact h1
    · have := h2 i h3 (by rw [dn_bit]; exact .inl h4)
      rw [h5] at this; cases this
  · intro h
    refine ⟨by rw [dn_bit]; exact .inl h, fun i hi hs => ?_⟩
    cases hc : (P.getD i 0).testBit j with
    | false => rfl
    | true =>
      exfalso
      have hb := (bm_bit _ _ _).1 h
      have key : ∀ i', (bm P (sd (2 ^ P.length - 1) s)).testBit i' = true → (P.getD i' 0).testBit j = true → False := fun i' h1 h2 => by
        have h3 := (bm_bit _ _ _).1 h1
        have := and_eq_zero.1 h3.2.2 j h2
        rw [hb.2.1] at this; cases this
      rw [dn_bit] at hs
      rcases hs with h1 | ⟨i', h3, h4, h5⟩
      · exact key i h1 hc
      · exact key i' h4 (below_trans hP h5 hc)
/-- Rowmotion undone. -/
theorem bk_rw {s : Nat} (hsl : s < 2 ^ P.length) (hs : idl P s = true) : bk P (rw_ P s) = s := by
  apply Nat.eq_of_testBit_eq
  intro j
  rw [Bool.eq_iff_iff, bk_bit]
  constructor
  · rintro ⟨h1, h2, h3⟩
    cases hc : s.testBit j with
    | true => rfl
    | false =>
      obtain ⟨i, h4, h5⟩ := least_below hP h1 hc
      rw [← tp_rw hP] at h4
      rcases h5 with rfl | h5
      · rw [h4] at h2; cases h2
      · rw [h3 i h5] at h4; cases h4
  · intro h
    refine ⟨bit_lt hsl h, ?_, fun i hi => ?_⟩
    · rw [tp_rw hP]
      cases hc : (bm P (sd (2 ^ P.length - 1) s)).testBit j with
      | false => rfl
      | true => have := (all_bit.1 ((bm_bit _ _ _).1 hc).2.1).2; rw [h] at this; cases this
    · rw [tp_rw hP]
      cases hc : (bm P (sd (2 ^ P.length - 1) s)).testBit i with
      | false => rfl
      | true => have := (all_bit.1 ((bm_bit _ _ _).1 hc).2.1).2; rw [idl_closed hP hs h hi] at this; cases this
/-- And the other way. -/
theorem rw_bk {s : Nat} (hsl : s < 2 ^ P.length) (hs : idl P s = true) : rw_ P (bk P s) = s := by
  apply Nat.eq_of_testBit_eq
  intro j
  have hbm : ∀ i, (bm P (sd (2 ^ P.length - 1) (bk P s))).testBit i = true ↔ (tp P s).testBit i = true := by
    intro i
    rw [bm_bit, all_bit, and_eq_zero]
    constructor
    · rintro ⟨h1, ⟨_, h2⟩, h3⟩
      cases hc : (tp P s).testBit i with
      | true => rfl
      | false =>
        exfalso
        have : ¬ ((bk P s).testBit i = true) := by rw [h2]; decide
        rw [bk_bit] at this
        apply this
        refine ⟨h1, hc, fun i' hi' => ?_⟩
        have h4 := h3 i' hi'
        have h5 : (bk P s).testBit i' = true := by
          cases hx : (bk P s).testBit i' with
          | true => rfl
          | false =>
            have : (sd (2 ^ P.length - 1) (bk P s)).testBit i' = true := all_bit.2 ⟨by have := below_lt hP hi'; omega, hx⟩
            rw [h4] at this; cases this
        exact ((bk_bit _ _ _).1 h5).2.1
    · intro h
      have h1 : i < P.length := bit_lt (tp_lt hsl) h
      have hnb : (bk P s).testBit i = false := by
        cases hx : (bk P s).testBit i with
        | false => rfl
        | true => have := ((bk_bit _ _ _).1 hx).2.1; rw [h] at this; cases this
      refine ⟨h1, ⟨h1, hnb⟩, fun i' hi' => ?_⟩
      have hl := below_lt hP hi'
      have htop := (tp_bit _ _ _).1 h
      have hin : (bk P s).testBit i' = true := by
        rw [bk_bit]
        refine ⟨by omega, ?_, fun i2 h2 => ?_⟩
        · cases hx : (tp P s).testBit i' with
          | false => rfl
          | true => have := ((tp_bit _ _ _).1 hx).2 i h1 htop.1; rw [hi'] at this; cases this
        · cases hx : (tp P s).testBit i2 with
          | false => rfl
          | true => have := ((tp_bit _ _ _).1 hx).2 i h1 htop.1; rw [below_trans hP hi' h2] at this; cases this
      rw [sd_bit, hin]; simp
  unfold rw_
  rw [Bool.eq_iff_iff, dn_bit]
  constructor
  · rintro (h | ⟨i, h1, h2, h3⟩)
    · exact ((tp_bit _ _ _).1 ((hbm j).1 h)).1
    · exact idl_closed hP hs ((tp_bit _ _ _).1 ((hbm i).1 h2)).1 h3
  · intro h
    obtain ⟨i, h1, h2⟩ := greatest_above hP hsl h
    rcases h2 with rfl | h2
    · exact .inl ((hbm i).2 h1)
    · exact .inr ⟨i, bit_lt (tp_lt hsl) h1, (hbm i).2 h1, h2⟩
/-- All toggles, from the first element on, are rowmotion back. -/
theorem toggles_bk {s : Nat} (hsl : s < 2 ^ P.length) (hs : idl P s = true) : foldFrom (tog P) 0 P.length s = bk P s := by
  have H := foldFrom_inv (tog P) (fun m o => o < 2 ^ P.length ∧ idl P o = true ∧ ∀ j, o.testBit j = if j < m then (bk P s).testBit j else s.testBit j) P.length ?_ 0 s (by omega) ⟨hsl, hs, fun j => by rw [if_neg (by omega)]⟩
  · obtain ⟨h1, _, h3⟩ := H
    apply Nat.eq_of_testBit_eq
    intro j
    rw [h3]
    split
    · rfl
    · rename_i hj
      rw [Nat.testBit_lt_two_pow (Nat.lt_of_lt_of_le hsl (two_pow_le (by omega))), Nat.testBit_lt_two_pow (Nat.lt_of_lt_of_le (bk_lt P s) (two_pow_le (by omega)))]
  · rintro m o hm ⟨hol, hoi, hob⟩
    refine ⟨tog_lt hol hm, tog_idl hoi, fun j => ?_⟩
    have hom : o.testBit m = s.testBit m := by rw [hob, if_neg (by omega)]
    -- what the toggle asks is just what the answer has
    have key : idl P (o ^^^ 2 ^ m) = true ↔ (bk P s).testBit m = !s.testBit m := by
      cases hsm : s.testBit m with
      | true =>
        rw [hsm] at hom
        rw [idl_iff]
        constructor
        · intro h
          cases hx : (bk P s).testBit m with
          | false => rfl
          | true =>
            exfalso
            have hb := (bk_bit _ _ _).1 hx
            obtain ⟨i, h1, h2⟩ := greatest_above hP hsl hsm
            rcases h2 with rfl | h2
            · rw [hb.2.1] at h1; cases h1
            · have hl := below_lt hP h2
              have h3 := h i hl.2 (by rw [xor_bit, if_neg (by omega), hob, if_neg (by omega)]; exact ((tp_bit _ _ _).1 h1).1) m h2
              rw [xor_bit, if_pos rfl, hom] at h3; cases h3
        · intro h i hi hsi j hj
          simp only [Bool.not_true] at h
          rw [xor_bit] at hsi ⊢
          by_cases hmi : m = i
          · subst hmi; rw [if_pos rfl, hom] at hsi; cases hsi
          · rw [if_neg hmi] at hsi
            have hoj := idl_closed hP hoi hsi hj
            by_cases hmj : m = j
            · subst hmj
              exfalso
              have hl := below_lt hP hj
              have hsi2 : s.testBit i = true := by rw [hob, if_neg (by omega)] at hsi; exact hsi
              have : (bk P s).testBit m = true := by
                rw [bk_bit]
                refine ⟨hm, ?_, fun i' hi' => ?_⟩
                · cases hx : (tp P s).testBit m with
                  | false => rfl
                  | true => have := ((tp_bit _ _ _).1 hx).2 i hi hsi2; rw [hj] at this; cases this
                · cases hx : (tp P s).testBit i' with
                  | false => rfl
                  | true => have := ((tp_bit _ _ _).1 hx).2 i hi hsi2; rw [below_trans hP hj hi'] at this; cases this
              rw [this] at h; cases h
            · rw [if_neg hmj]; exact hoj
      | false =>
        rw [hsm] at hom
        rw [idl_iff]
        have hbelow : ∀ j, (P.getD m 0).testBit j = true → (o.testBit j = (bk P s).testBit j) := fun j hj => by
          have := below_lt hP hj
          rw [hob, if_pos (by omega)]
        constructor
        · intro h
          show (bk P s).testBit m = true
          rw [bk_bit]
          have hin : ∀ j, (P.getD m 0).testBit j = true → (bk P s).testBit j = true := fun j hj => by
            have h2 := h m hm (by rw [xor_bit, if_pos rfl, hom]; rfl) j hj
            have hl := below_lt hP hj
            rw [xor_bit, if_neg (by omega)] at h2
            rw [← hbelow j hj]; exact h2
          refine ⟨hm, ?_, fun i' hi' => ((bk_bit _ _ _).1 (hin i' hi')).2.1⟩
          cases hx : (tp P s).testBit m with
          | false => rfl
          | true => have := ((tp_bit _ _ _).1 hx).1; rw [hsm] at this; cases this
        · intro h i hi hsi j hj
          simp only [Bool.not_false] at h
          have hl := below_lt hP hj
          rw [xor_bit] at hsi ⊢
          by_cases hmi : m = i
          · subst hmi
            rw [if_neg (by omega), hbelow j hj]
            exact idl_closed hP (bk_idl hP s) h hj
          · rw [if_neg hmi] at hsi
            have hoj := idl_closed hP hoi hsi hj
            by_cases hmj : m = j
            · subst hmj; rw [hom] at hoj; cases hoj
            · rw [if_neg hmj]; exact hoj
    unfold tog
    by_cases hk : idl P (o ^^^ 2 ^ m) = true
    · rw [if_pos hk, xor_bit]
      have hk2 := key.1 hk
      by_cases hmj : m = j
      · subst hmj
        rw [if_pos rfl, if_pos (by omega), hom, hk2]
      · rw [if_neg hmj, hob]
        by_cases h : j < m
        · rw [if_pos h, if_pos (by omega)]
        · rw [if_neg h, if_neg (by omega)]
    · rw [if_neg hk, hob]
      by_cases hmj : m = j
      · subst hmj
        rw [if_neg (by omega), if_pos (by omega)]
        cases h1 : s.testBit m <;> cases h2 : (bk P s).testBit m <;> first | rfl | (exfalso; apply hk; rw [key, h1, h2]; rfl)
      · by_cases h : j < m
        · rw [if_pos h, if_pos (by omega)]
        · rw [if_neg h, if_neg (by omega)]
end
end Go.Proofs.Ytkdddlkhildliaa.B

/-! ### Mways -/
/- In how many ways sets are filled up, told downwards; on ideals it does not matter what is told of other sets. -/
namespace Go.Proofs.Ytkdddlkhildliaa.B
open Go.RowKit Go.Proofs.Ytkdddlkhildliaa.M Go.Proofs.YtkdddlkhildliaaW.PrintWords Go.Proofs.YtkdddlkhildliaaW.PrintLast Go.Proofs.YtkdddlkhildliaaW.PrintMore
attribute [local irreducible] Go.bits shl shr sd
theorem foldFrom_rel {σ τ : Type} (f : σ → Nat → σ) (g : τ → Nat → τ) (R : σ → τ → Prop) (n : Nat) (h : ∀ i a b, i < n → R a b → R (f a i) (g b i)) : ∀ (i : Nat) (a : σ) (b : τ), i ≤ n → R a b → R (foldFrom f i n a) (foldFrom g i n b) := by
  have H : ∀ d i a b, n - i = d → i ≤ n → R a b → R (foldFrom f i n a) (foldFrom g i n b) := by
    intro d
    induction d with
    | zero =>
      intro i a b hd hi hR
      obtain rfl : i = n := by omega
      rw [foldFrom_end, foldFrom_end]; exact hR
    | succ d ih =>
      intro i a b hd hi hR
      rw [foldFrom_step f (show i < n by omega), foldFrom_step g (show i < n by omega)]
      exact ih (i + 1) _ _ (by omega) (by omega) (h i a b (by omega) hR)
  exact fun i a b hi hR => H (n - i) i a b rfl hi hR
def wcan (P : List Nat) (s i : Nat) : Bool := !s.testBit i && decide (sd (P.getD i 0) s = 0)
def wstep (P : List Nat) (s : Nat) (o : List Int) (i : Nat) : List Int := if wcan P s i = true then o.set s (wrap64 (o.getD s 0 + o.getD (s ||| 2 ^ i) 0)) else o
def wrow (P : List Nat) (s : Nat) (o : List Int) : List Int := foldFrom (wstep P s) 0 P.length o
def wrow' (P : List Nat) (s : Nat) (o : List Int) : List Int := if idl P s = true then wrow P s o else o
def wdown (f : Nat → List Int → List Int) : Nat → List Int → List Int
  | 0, o => o
  | s + 1, o => wdown f s (f s o)
theorem set_getD (o : List Int) (i j : Nat) (x : Int) (hi : i < o.length) : (o.set i x).getD j 0 = if i = j then x else o.getD j 0 := by
  rw [List.getD_eq_getElem?_getD, List.getElem?_set]
  by_cases h : i = j
  · subst h; rw [if_pos rfl, if_pos hi, if_pos rfl]; rfl
  · rw [if_neg h, if_neg h, ← List.getD_eq_getElem?_getD]
theorem wstep_length (P : List Nat) (s : Nat) (o : List Int) (i : Nat) : (wstep P s o i).length = o.length := by
  unfold wstep; split <;> simp
theorem wrow_length (P : List Nat) (s : Nat) (o : List Int) : (wrow P s o).length = o.length := by
  unfold wrow
  exact foldFrom_inv (wstep P s) (fun _ o' => o'.length = o.length) P.length (fun i o' _ h => by rw [wstep_length]; exact h) 0 o (by omega) rfl
theorem or_ne {s i : Nat} (h : s.testBit i = false) : s ||| 2 ^ i ≠ s := by
  intro he
  have := congrArg (fun x => x.testBit i) he
  rw [Nat.testBit_or, Nat.testBit_two_pow, h] at this
  simp at this
/-- The value that a row puts at its set. -/
def wval (P : List Nat) (s : Nat) (o : List Int) : Int := foldFrom (fun (a : Int) i => if wcan P s i = true then wrap64 (a + o.getD (s ||| 2 ^ i) 0) else a) 0 P.length (o.getD s 0)
theorem wrow_get (P : List Nat) {s : Nat} {o : List Int} (hs : s < o.length) : (wrow P s o).getD s 0 = wval P s o ∧ ∀ t, t ≠ s → (wrow P s o).getD t 0 = o.getD t 0 := by
  have H := foldFrom_rel (wstep P s) (fun (a : Int) i => if wcan P s i = true then wrap64 (a + o.getD (s ||| 2 ^ i) 0) else a) (fun (o' : List Int) (a : Int) => o'.length = o.length ∧ o'.getD s 0 = a ∧ ∀ t, t ≠ s → o'.getD t 0 = o.getD t 0) P.length ?_ 0 o (o.getD s 0) (by omega) ⟨rfl, rfl, fun _ _ => rfl⟩
  · exact ⟨H.2.1, H.2.2⟩
  · rintro i o' a _ ⟨h1, h2, h3⟩
    unfold wstep
    cases hc : wcan P s i with
    | true =>
      have hb : s.testBit i = false := by
        unfold wcan at hc
        rw [Bool.and_eq_true] at hc
        simpa using hc.1
      simp only [if_true]
      refine ⟨by rw [List.length_set]; exact h1, ?_, fun t ht => ?_⟩
      · rw [set_getD _ _ _ _ (by omega), if_pos rfl, h2, h3 _ (or_ne hb)]
      · rw [set_getD _ _ _ _ (by omega), if_neg (Ne.symm ht)]; exact h3 t ht
    | false =>
      simp only [Bool.false_eq_true, if_false]
      exact ⟨h1, h2, h3⟩
theorem can_idl {P : List Nat} {s i : Nat} (hs : idl P s = true) (hc : wcan P s i = true) : idl P (s ||| 2 ^ i) = true ∧ s < s ||| 2 ^ i := by
  unfold wcan at hc
  rw [Bool.and_eq_true, decide_eq_true_eq] at hc
  have hb : s.testBit i = false := by simpa using hc.1
  refine ⟨?_, ?_⟩
  · rw [idl_iff]
    intro x hx hbx j hj
    rw [Nat.testBit_or, Bool.or_eq_true] at hbx ⊢
    left
    rcases hbx with h | h
    · exact (idl_iff P s).1 hs x hx h j hj
    · rw [Nat.testBit_two_pow, decide_eq_true_eq] at h
      subst h
      exact sd_eq_zero.1 hc.2 j hj
  · have h1 : s ≤ s ||| 2 ^ i := Nat.left_le_or
    have h2 := or_ne hb
    omega
theorem wval_alike {P : List Nat} {s : Nat} {o o' : List Int} (hs : idl P s = true) (h0 : o.getD s 0 = o'.getD s 0) (h : ∀ t, s < t → idl P t = true → o.getD t 0 = o'.getD t 0) : wval P s o = wval P s o' := by
  unfold wval
  rw [h0]
  refine foldFrom_rel _ _ (fun a b => a = b) P.length ?_ 0 _ _ (by omega) rfl
  rintro i a _ _ rfl
  cases hc : wcan P s i with
  | true =>
    simp only [if_true]
    obtain ⟨h1, h2⟩ := can_idl hs hc
    rw [h _ h2 h1]
  | false => rfl
theorem wdown_alike (P : List Nat) (N : Nat) : ∀ (c : Nat) (o o' : List Int), c ≤ N → o.length = N → o'.length = N → (∀ t, c ≤ t → idl P t = true → o.getD t 0 = o'.getD t 0) → (∀ t, t < c → o.getD t 0 = 0 ∧ o'.getD t 0 = 0) →
    ∀ t, idl P t = true → (wdown (wrow P) c o).getD t 0 = (wdown (wrow' P) c o').getD t 0 := by
  intro c
  induction c with
  | zero => intro o o' _ _ _ h _ t ht; exact h t (by omega) ht
  | succ s ih =>
    intro o o' hc h1 h2 h3 h4 t ht
    obtain ⟨g1, g2⟩ := wrow_get P (s := s) (o := o) (by omega)
    obtain ⟨g3, g4⟩ := wrow_get P (s := s) (o := o') (by omega)
    show (wdown (wrow P) s (wrow P s o)).getD t 0 = (wdown (wrow' P) s (wrow' P s o')).getD t 0
    unfold wrow'
    cases hi : idl P s with
    | true =>
      simp only [if_true]
      refine ih _ _ (by omega) (by rw [wrow_length]; exact h1) (by rw [wrow_length]; exact h2) (fun t hct hti => ?_) (fun t htc => ?_) t ht
      · by_cases hts : t = s
        · subst hts
          rw [g1, g3]
          exact wval_alike hi ((h4 t (by omega)).1.trans (h4 t (by omega)).2.symm) (fun x hx hxi => h3 x (by omega) hxi)
        · rw [g2 t hts, g4 t hts]; exact h3 t (by omega) hti
      · rw [g2 t (by omega), g4 t (by omega)]; exact h4 t (by omega)
    | false =>
      simp only [Bool.false_eq_true, if_false]
      refine ih _ _ (by omega) (by rw [wrow_length]; exact h1) h2 (fun t hct hti => ?_) (fun t htc => ?_) t ht
      · have hts : t ≠ s := by rintro rfl; rw [hi] at hti; cases hti
        rw [g2 t hts]; exact h3 t (by omega) hti
      · rw [g2 t (by omega)]; exact h4 t (by omega)
def wstart (P : List Nat) : List Int := (List.replicate (2 ^ P.length) (0 : Int)).set (2 ^ P.length - 1) 1
theorem wstart_length (P : List Nat) : (wstart P).length = 2 ^ P.length := by unfold wstart; simp
theorem counts_alike (P : List Nat) : (wdown (wrow P) (2 ^ P.length - 1) (wstart P)).getD 0 0 = (wdown (wrow' P) (2 ^ P.length - 1) (wstart P)).getD 0 0 := by
  have h1 := Nat.one_le_two_pow (n := P.length)
  refine wdown_alike P (2 ^ P.length) _ _ _ (by omega) (wstart_length P) (wstart_length P) (fun _ _ _ => rfl) (fun t ht => ?_) 0 ?_
  · unfold wstart
    rw [set_getD _ _ _ _ (by rw [List.length_replicate]; omega), if_neg (by omega), List.getD_eq_getElem?_getD, List.getElem?_replicate]
    split <;> exact ⟨rfl, rfl⟩
  · rw [idl_iff]; intro i _ h; rw [Nat.zero_testBit] at h; cases h
theorem wdown_length (f : Nat → List Int → List Int) (hf : ∀ s o, (f s o).length = o.length) : ∀ (c : Nat) (o : List Int), (wdown f c o).length = o.length := by
  intro c
  induction c with
  | zero => intro o; rfl
  | succ s ih => intro o; show (wdown f s (f s o)).length = _; rw [ih, hf]
end Go.Proofs.Ytkdddlkhildliaa.B

/-! ### Morb -/
/- Orbits of a motion that can be undone, on numbers below a bound: plain. -/
namespace Go.Proofs.Ytkdddlkhildliaa.B
open Go.RowKit Go.Proofs.Ytkdddlkhildliaa.M Go.Proofs.YtkdddlkhildliaaW.PrintWords Go.Proofs.YtkdddlkhildliaaW.PrintLast Go.Proofs.YtkdddlkhildliaaW.PrintMore
attribute [local irreducible] Go.bits shl shr sd
theorem nodup_le : ∀ (n : Nat) (l : List Nat), l.Nodup → (∀ x ∈ l, x < n) → l.length ≤ n := by
  intro n
  induction n with
  | zero =>
    intro l _ h
    cases l with
    | nil => exact Nat.le_refl _
    | cons x xs => exact absurd (h x List.mem_cons_self) (by omega)
  | succ n ih =>
    intro l hd h
    by_cases hm : n ∈ l
    · have h1 := ih (l.erase n) (hd.erase n) (fun x hx => by
        have h2 := (hd.mem_erase_iff).1 hx
        have := h x h2.2
        omega)
      rw [List.length_erase_of_mem hm] at h1
      omega
    · have := ih l hd (fun x hx => by
        have h2 := h x hx
        have : x ≠ n := by rintro rfl; exact hm hx
        omega)
      omega
def iter (f : Nat → Nat) : Nat → Nat → Nat
  | 0, s => s
  | i + 1, s => f (iter f i s)
structure Motion (f : Nat → Nat) (N : Nat) (S : Nat → Prop) : Prop where
  lt : ∀ s, S s → s < N
  keeps : ∀ s, S s → S (f s)
  inj : ∀ s t, S s → S t → f s = f t → s = t
section
variable {f : Nat → Nat} {N : Nat} {S : Nat → Prop} (hf : Motion f N S)
include hf
theorem iter_in {s : Nat} (hs : S s) : ∀ i, S (iter f i s)
  | 0 => hs
  | i + 1 => hf.keeps _ (iter_in hs i)
theorem iter_cancel {s : Nat} (hs : S s) : ∀ i d, iter f (i + d) s = iter f i s → iter f d s = s
  | 0, d, h => by rw [Nat.zero_add] at h; exact h
  | i + 1, d, h => by
    rw [show i + 1 + d = (i + d) + 1 by omega] at h
    exact iter_cancel hs i d (hf.inj _ _ (iter_in hf hs _) (iter_in hf hs _) h)
theorem exists_per {s : Nat} (hs : S s) : ∃ p, 1 ≤ p ∧ p ≤ N ∧ iter f p s = s := by
  apply Classical.byContradiction
  intro hno
  have hd : ((List.range (N + 1)).map (fun i => iter f i s)).Nodup := by
    rw [List.Nodup, List.pairwise_map]
    refine List.Pairwise.imp_of_mem ?_ List.pairwise_lt_range
    intro a b ha hb hab he
    rw [List.mem_range] at ha hb
    refine hno ⟨b - a, by omega, by omega, iter_cancel hf hs a (b - a) ?_⟩
    rw [show a + (b - a) = b by omega]
    exact he.symm
  have := nodup_le N _ hd (fun x hx => by
    rw [List.mem_map] at hx
    obtain ⟨i, _, rfl⟩ := hx
    exact hf.lt _ (iter_in hf hs i))
  rw [List.length_map, List.length_range] at this
  omega
end
def search (f : Nat → Nat) (s : Nat) : Nat → Nat → Nat
  | 0, i => i
  | k + 1, i => if iter f i s = s then i else search f s k (i + 1)
theorem search_spec (f : Nat → Nat) (s : Nat) : ∀ (k i : Nat), i ≤ search f s k i ∧ search f s k i ≤ i + k ∧ (∀ j, i ≤ j → j < search f s k i → iter f j s ≠ s) ∧ (search f s k i = i + k ∨ iter f (search f s k i) s = s)
  | 0, i => ⟨Nat.le_refl _, by simp [search], fun j h1 h2 => absurd h2 (by simp [search]; omega), .inl rfl⟩
  | k + 1, i => by
    unfold search
    by_cases h : iter f i s = s
    · rw [if_pos h]
      exact ⟨Nat.le_refl _, by omega, fun j h1 h2 => absurd h2 (by omega), .inr h⟩
    · rw [if_neg h]
      obtain ⟨h1, h2, h3, h4⟩ := search_spec f s k (i + 1)
      refine ⟨by omega, by omega, fun j h5 h6 => ?_, h4.imp (fun h => by omega) id⟩
      by_cases hj : j = i
      · rw [hj]; exact h
      · exact h3 j (by omega) h6
def per (f : Nat → Nat) (N s : Nat) : Nat := search f s N 1
/-- An orbit. -/
def orb (f : Nat → Nat) (N s : Nat) : List Nat := (List.range (per f N s)).map (fun i => iter f i s)
def orbTo (f : Nat → Nat) (s i : Nat) : List Nat := (List.range i).map (fun i => iter f i s)
theorem orbTo_succ (f : Nat → Nat) (s i : Nat) : orbTo f s (i + 1) = orbTo f s i ++ [iter f i s] := by unfold orbTo; rw [List.range_succ, List.map_append]; rfl
theorem orbTo_length (f : Nat → Nat) (s i : Nat) : (orbTo f s i).length = i := by unfold orbTo; simp
theorem mem_orbTo {f : Nat → Nat} {s i x : Nat} : x ∈ orbTo f s i ↔ ∃ j, j < i ∧ iter f j s = x := by
  unfold orbTo
  rw [List.mem_map]
  constructor
  · rintro ⟨j, h1, h2⟩; exact ⟨j, List.mem_range.1 h1, h2⟩
  · rintro ⟨j, h1, h2⟩; exact ⟨j, List.mem_range.2 h1, h2⟩
section
variable {f : Nat → Nat} {N : Nat} {S : Nat → Prop} (hf : Motion f N S)
include hf
theorem per_spec {s : Nat} (hs : S s) : 1 ≤ per f N s ∧ per f N s ≤ N ∧ iter f (per f N s) s = s ∧ ∀ j, 1 ≤ j → j < per f N s → iter f j s ≠ s := by
  obtain ⟨p, h1, h2, h3⟩ := exists_per hf hs
  obtain ⟨k1, k2, k3, k4⟩ := search_spec f s N 1
  have hle : per f N s ≤ p := by
    rcases Nat.lt_or_ge p (per f N s) with h | h
    · exact absurd h3 (k3 p h1 h)
    · exact h
  refine ⟨k1, by omega, ?_, k3⟩
  rcases k4 with k4 | k4
  · have : per f N s = 1 + N := k4
    omega
  · exact k4
theorem iter_ne {s : Nat} (hs : S s) {i j : Nat} (hij : i < j) (hj : j < per f N s) : iter f i s ≠ iter f j s := by
  intro h
  refine (per_spec hf hs).2.2.2 (j - i) (by omega) (by omega) (iter_cancel hf hs i (j - i) ?_)
  rw [show i + (j - i) = j by omega]
  exact h.symm
theorem orb_length {s : Nat} (hs : S s) : 1 ≤ (orb f N s).length ∧ (orb f N s).length ≤ N := by
  unfold orb
  rw [List.length_map, List.length_range]
  exact ⟨(per_spec hf hs).1, (per_spec hf hs).2.1⟩
theorem mem_orb {s x : Nat} (hs : S s) (hx : x ∈ orb f N s) : S x := by
  obtain ⟨j, _, rfl⟩ := mem_orbTo.1 hx
  exact iter_in hf hs j
/-- A set that the motion keeps. -/
def Closed (f : Nat → Nat) (S : Nat → Prop) (m : List Nat) : Prop := ∀ x ∈ m, S x ∧ f x ∈ m
omit hf in
theorem closed_iter {m : List Nat} (hm : Closed f S m) {x : Nat} (hx : x ∈ m) : ∀ i, iter f i x ∈ m
  | 0 => hx
  | i + 1 => (hm _ (closed_iter hm hx i)).2
omit hf in
theorem iter_add (s : Nat) : ∀ i j, iter f (i + j) s = iter f i (iter f j s)
  | 0, j => by rw [Nat.zero_add]; rfl
  | i + 1, j => by rw [show i + 1 + j = (i + j) + 1 by omega]; exact congrArg f (iter_add s i j)
theorem out_iter {m : List Nat} (hm : Closed f S m) {s : Nat} (hs : S s) (hn : s ∉ m) {i : Nat} (hi : i ≤ per f N s) : iter f i s ∉ m := by
  intro h
  apply hn
  have h1 := closed_iter hm h (per f N s - i)
  rw [← iter_add, show per f N s - i + i = per f N s by omega, (per_spec hf hs).2.2.1] at h1
  exact h1
theorem out_orb {m : List Nat} (hm : Closed f S m) {s : Nat} (hs : S s) (hn : s ∉ m) {i : Nat} (hi : i < per f N s) : iter f i s ∉ m ++ orbTo f s i := by
  rw [List.mem_append]
  rintro (h | h)
  · exact out_iter hf hm hs hn (by omega) h
  · obtain ⟨j, h1, h2⟩ := mem_orbTo.1 h
    exact iter_ne hf hs h1 hi h2
theorem back_orb {m : List Nat} {s : Nat} (hs : S s) : iter f (per f N s) s ∈ m ++ orbTo f s (per f N s) := by
  rw [(per_spec hf hs).2.2.1, List.mem_append]
  exact .inr (mem_orbTo.2 ⟨0, (per_spec hf hs).1, rfl⟩)
theorem closed_orb {m : List Nat} (hm : Closed f S m) {s : Nat} (hs : S s) : Closed f S (m ++ orb f N s) := by
  intro x hx
  rw [List.mem_append] at hx
  rcases hx with h | h
  · exact ⟨(hm x h).1, List.mem_append.2 (.inl (hm x h).2)⟩
  · refine ⟨mem_orb hf hs h, List.mem_append.2 (.inr ?_)⟩
    obtain ⟨j, h1, rfl⟩ := mem_orbTo.1 h
    show iter f (j + 1) s ∈ orb f N s
    by_cases hj : j + 1 < per f N s
    · exact mem_orbTo.2 ⟨j + 1, hj, rfl⟩
    · rw [show j + 1 = per f N s by omega, (per_spec hf hs).2.2.1]
      exact mem_orbTo.2 ⟨0, (per_spec hf hs).1, rfl⟩
end
/-- All orbits of a list's numbers, each from the first one that is in none before. -/
def cyc (f : Nat → Nat) (N : Nat) : List Nat → List Nat → List (List Nat)
  | _, [] => []
  | m, s :: l => if s ∈ m then cyc f N m l else orb f N s :: cyc f N (m ++ orb f N s) l
theorem cyc_mem {f : Nat → Nat} {N : Nat} {S : Nat → Prop} : ∀ (l m : List Nat), (∀ s ∈ l, S s) → ∀ o ∈ cyc f N m l, ∃ s, S s ∧ o = orb f N s
  | [], _, _, o, h => by cases h
  | s :: l, m, hl, o, h => by
    unfold cyc at h
    split at h
    · exact cyc_mem l m (fun x hx => hl x (List.mem_cons_of_mem _ hx)) o h
    · rcases List.mem_cons.1 h with h | h
      · exact ⟨s, hl s List.mem_cons_self, h⟩
      · exact cyc_mem l _ (fun x hx => hl x (List.mem_cons_of_mem _ hx)) o h
theorem cyc_length (f : Nat → Nat) (N : Nat) : ∀ (l m : List Nat), (cyc f N m l).length ≤ l.length
  | [], _ => Nat.le_refl _
  | s :: l, m => by
    unfold cyc
    split
    · have := cyc_length f N l m
      rw [List.length_cons]; omega
    · have := cyc_length f N l (m ++ orb f N s)
      rw [List.length_cons, List.length_cons]; omega
end Go.Proofs.Ytkdddlkhildliaa.B

/-! ### S0 -/
/- Is an element in a set; the set of all. -/
namespace Go.Proofs.Ytkdddlkhildliaa.B
open Go.RowKit Go.Proofs.Ytkdddlkhildliaa.M Go.Proofs.YtkdddlkhildliaaW.PrintWords Go.Proofs.YtkdddlkhildliaaW.PrintLast Go.Proofs.YtkdddlkhildliaaW.PrintMore
attribute [local irreducible] Go.bits shl shr sd
theorem poIn_is {s e : Nat} (he : e ≤ 64) : spec_poIn.f (s : Int) (e : Int) = some (s.testBit e) := by
  unfold spec_poIn.f
  rw [if_pos (by omega)]
  congr 1
  have := bit_tmod (s := s) he
  cases hb : s.testBit e
  · rw [hb] at this; simpa using this
  · rw [hb] at this; simpa using this
theorem all_is (l : List Int) (hn : l.length ≤ 62) : impl_Poset_all.f l = some ((2 ^ l.length - 1 : Nat) : Int) := by
  unfold impl_Poset_all.f impl_Poset_n.f
  rw [Option.bind_some, if_pos (by omega), mask_sub (by omega)]
end Go.Proofs.Ytkdddlkhildliaa.B

/-! ### Sdown -/
/- The least ideal with a set, as the reference makes it. -/
namespace Go.Proofs.Ytkdddlkhildliaa.B
open Go.RowKit Go.Proofs.Ytkdddlkhildliaa.M Go.Proofs.YtkdddlkhildliaaW.PrintWords Go.Proofs.YtkdddlkhildliaaW.PrintLast Go.Proofs.YtkdddlkhildliaaW.PrintMore
attribute [local irreducible] Go.bits shl shr sd
theorem poDown_ev {l : List Int} {P : List Nat} (hP : Good l P) {s : Nat} (hs : s < 2 ^ P.length) : Ev (fun k => spec_poDown.f k l (s : Int)) ((dn P s : Nat) : Int) := by
  have hn := hP.n10
  have hl := hP.length
  have H : ∀ (i : Nat) (st : Nat), i ≤ P.length → st < 2 ^ P.length → Ev (fun k => spec_poDown.l0 k (s : Int) (st : Int) l (l.length : Int) (i : Int)) ((foldFrom (fun o i => if s.testBit i then o ||| P.getD i 0 else o) i P.length st : Nat) : Int) := by
    refine ev_down (fun k (st : Nat) i => spec_poDown.l0 k (s : Int) (st : Int) l (l.length : Int) i) (fun i st => ((foldFrom (fun o i => if s.testBit i then o ||| P.getD i 0 else o) i P.length st : Nat) : Int)) P.length (fun _ st => st < 2 ^ P.length) ?_ ?_
    · intro st _
      rw [foldFrom_end]
      exact ev_step (Ev.now _) (fun k => by simp only [spec_poDown.l0]; rw [if_neg (by omega)])
    · intro i st hi hst ih
      have c1 : (i : Int) < (l.length : Int) := by omega
      have c2 : 0 ≤ (i : Int) := by omega
      have hw : wrap64 ((i : Int) + 1) = (i : Int) + 1 := wrap64_id (by omega) (by omega)
      have hb := poIn_is (s := s) (e := i) (by omega)
      have ho := or_nat (p63 hst (by omega)) (hP.lt63 i)
      have hr : rd l (i : Int) = ((P.getD i 0 : Nat) : Int) := by rw [hP.eq, rd_cast]
      rw [foldFrom_step _ hi]
      cases hbit : s.testBit i with
      | true => exact ev_step (ih _ (Nat.or_lt_two_pow hst (hP.ltn i))) (fun k => by simp only [spec_poDown.l0]; rw [if_pos c1, if_pos c2, if_pos c1, hb, hbit, Option.bind_some, if_pos rfl, hr, ho, hw]; rfl)
      | false => exact ev_step (ih _ hst) (fun k => by simp only [spec_poDown.l0]; rw [if_pos c1, if_pos c2, if_pos c1, hb, hbit, Option.bind_some, if_neg (by decide), hw]; rfl)
  unfold spec_poDown.f
  exact H 0 s (by omega) hs
end Go.Proofs.Ytkdddlkhildliaa.B

/-! ### Sclose -/
/- The least ideal with a set, as the program makes it. -/
namespace Go.Proofs.Ytkdddlkhildliaa.B
open Go.RowKit Go.Proofs.Ytkdddlkhildliaa.M Go.Proofs.YtkdddlkhildliaaW.PrintWords Go.Proofs.YtkdddlkhildliaaW.PrintLast Go.Proofs.YtkdddlkhildliaaW.PrintMore
attribute [local irreducible] Go.bits shl shr sd
theorem close_l0 {l : List Int} {P : List Nat} (hP : Good l P) {s : Nat} (hs : s < 2 ^ P.length) : ∀ (e : Nat) (st : Nat), e ≤ (items s).length → st < 2 ^ P.length →
    Ev (fun k => impl_Poset_close.l0 k (st : Int) (cast (items s)) ((cast (items s)).length : Int) (e : Int) l) ((((items s).drop e).foldl (fun o i => o ||| P.getD i 0) st : Nat) : Int) := by
  have hn := hP.n10
  have hlen : (items s).length ≤ 10 := by unfold items; exact Nat.le_trans (List.length_filter_le _ _) (by simp)
  refine ev_down (fun k (st : Nat) e => impl_Poset_close.l0 k (st : Int) (cast (items s)) ((cast (items s)).length : Int) e l) (fun e st => ((((items s).drop e).foldl (fun o i => o ||| P.getD i 0) st : Nat) : Int)) (items s).length (fun _ st => st < 2 ^ P.length) ?_ ?_
  · intro st _
    rw [List.drop_length, List.foldl_nil]
    exact ev_step (Ev.now _) (fun k => by simp only [impl_Poset_close.l0]; rw [if_neg (by rw [cast_length]; omega)])
  · intro e st he hst ih
    obtain ⟨j, hj⟩ : ∃ j, (items s).getD e 0 = j := ⟨_, rfl⟩
    have hmem : j ∈ items s := by rw [← hj, List.getD_eq_getElem?_getD, List.getElem?_eq_getElem he, Option.getD_some]; exact List.getElem_mem he
    have hjn : j < P.length := bit_lt hs (mem_items.1 hmem).2
    have hl := hP.length
    have c1 : (e : Int) < ((cast (items s)).length : Int) := by rw [cast_length]; omega
    have c2 : 0 ≤ (e : Int) := by omega
    have c4 : 0 ≤ (j : Int) := by omega
    have c5 : (j : Int) < (l.length : Int) := by omega
    have hw : wrap64 ((e : Int) + 1) = (e : Int) + 1 := wrap64_id (by omega) (by omega)
    have ho := or_nat (p63 hst (by omega)) (hP.lt63 j)
    rw [drop_step (items s) 0 he, hj, List.foldl_cons]
    refine ev_step (ih (st ||| P.getD j 0) (Nat.or_lt_two_pow hst (hP.ltn j))) (fun k => ?_)
    simp only [impl_Poset_close.l0]
    rw [if_pos c1, if_pos c2, if_pos c1, rd_cast, hj, if_pos c4, if_pos c5, hw]
    conv => lhs; rw [hP.eq, rd_cast]
    rw [ho, ← hP.eq]
theorem close_ev {l : List Int} {P : List Nat} (hP : Good l P) {s : Nat} (hs : s < 2 ^ P.length) : Ev (fun k => impl_Poset_close.f k l (s : Int)) ((dn P s : Nat) : Int) := by
  have hn := hP.n10
  unfold impl_Poset_close.f
  refine Ev.bind (items_ev (p63 hs (by omega))) ?_
  have := close_l0 hP hs 0 s (by omega) hs
  rw [List.drop_zero, fold_items _ hs (by omega)] at this
  exact this
end Go.Proofs.Ytkdddlkhildliaa.B

/-! ### Sbot -/
/- What of a set has nothing of it below: the program's and the reference's. -/
namespace Go.Proofs.Ytkdddlkhildliaa.B
open Go.RowKit Go.Proofs.Ytkdddlkhildliaa.M Go.Proofs.YtkdddlkhildliaaW.PrintWords Go.Proofs.YtkdddlkhildliaaW.PrintLast Go.Proofs.YtkdddlkhildliaaW.PrintMore
attribute [local irreducible] Go.bits shl shr sd
theorem nat_zero {x : Nat} : ((x : Nat) : Int) = 0 ↔ x = 0 := by omega
theorem bottom_l0 {l : List Int} {P : List Nat} (hP : Good l P) {s : Nat} (hs : s < 2 ^ P.length) : ∀ (e : Nat) (st : Nat), e ≤ (items s).length → st < 2 ^ P.length →
    Ev (fun k => impl_Poset_bottom.l0 k (s : Int) (st : Int) (cast (items s)) ((cast (items s)).length : Int) (e : Int) l) ((((items s).drop e).foldl (fun o i => if P.getD i 0 &&& s = 0 then o ||| 2 ^ i else o) st : Nat) : Int) := by
  have hn := hP.n10
  have hlen : (items s).length ≤ 10 := by unfold items; exact Nat.le_trans (List.length_filter_le _ _) (by simp)
  refine ev_down (fun k (st : Nat) e => impl_Poset_bottom.l0 k (s : Int) (st : Int) (cast (items s)) ((cast (items s)).length : Int) e l) (fun e st => ((((items s).drop e).foldl (fun o i => if P.getD i 0 &&& s = 0 then o ||| 2 ^ i else o) st : Nat) : Int)) (items s).length (fun _ st => st < 2 ^ P.length) ?_ ?_
  · intro st _
    rw [List.drop_length, List.foldl_nil]
    exact ev_step (Ev.now _) (fun k => by simp only [impl_Poset_bottom.l0]; rw [if_neg (by rw [cast_length]; omega)])
  · intro e st he hst ih
    obtain ⟨j, hj⟩ : ∃ j, (items s).getD e 0 = j := ⟨_, rfl⟩
    have hmem : j ∈ items s := by rw [← hj, List.getD_eq_getElem?_getD, List.getElem?_eq_getElem he, Option.getD_some]; exact List.getElem_mem he
    have hjn : j < P.length := bit_lt hs (mem_items.1 hmem).2
    have hl := hP.length
    have c1 : (e : Int) < ((cast (items s)).length : Int) := by rw [cast_length]; omega
    have c2 : 0 ≤ (e : Int) := by omega
    have c4 : 0 ≤ (j : Int) := by omega
    have c5 : (j : Int) < (l.length : Int) := by omega
    have hw : wrap64 ((e : Int) + 1) = (e : Int) + 1 := wrap64_id (by omega) (by omega)
    have h2 : 2 ^ j < 2 ^ P.length := Nat.pow_lt_pow_right (by decide) hjn
    have hr : rd l (j : Int) = ((P.getD j 0 : Nat) : Int) := by rw [hP.eq, rd_cast]
    have ha := and_nat (hP.lt63 j) (p63 hs (by omega))
    have ho := or_nat (p63 hst (by omega)) (p63 h2 (by omega))
    have hsh := shl_one (i := j) (by omega)
    rw [drop_step (items s) 0 he, hj, List.foldl_cons]
    by_cases h0 : P.getD j 0 &&& s = 0
    · rw [if_pos h0]
      refine ev_step (ih (st ||| 2 ^ j) (Nat.or_lt_two_pow hst h2)) (fun k => ?_)
      simp only [impl_Poset_bottom.l0]
      rw [if_pos c1, if_pos c2, if_pos c1, rd_cast, hj, if_pos c4, if_pos c5, hr, ha, if_pos (nat_zero.2 h0), hsh, ho, hw]
    · rw [if_neg h0]
      refine ev_step (ih st hst) (fun k => ?_)
      simp only [impl_Poset_bottom.l0]
      rw [if_pos c1, if_pos c2, if_pos c1, rd_cast, hj, if_pos c4, if_pos c5, hr, ha, if_neg (fun h => h0 (nat_zero.1 h)), hw]
theorem bottom_ev {l : List Int} {P : List Nat} (hP : Good l P) {s : Nat} (hs : s < 2 ^ P.length) : Ev (fun k => impl_Poset_bottom.f k l (s : Int)) ((bm P s : Nat) : Int) := by
  have hn := hP.n10
  unfold impl_Poset_bottom.f
  refine Ev.bind (items_ev (p63 hs (by omega))) ?_
  have := bottom_l0 hP hs 0 0 (by omega) (Nat.two_pow_pos _)
  rw [List.drop_zero, fold_items _ hs (by omega)] at this
  exact this
theorem poBottom_ev {l : List Int} {P : List Nat} (hP : Good l P) {s : Nat} (hs : s < 2 ^ P.length) : Ev (fun k => spec_poBottom.f k l (s : Int)) ((bm P s : Nat) : Int) := by
  have hn := hP.n10
  have hl := hP.length
  have H : ∀ (i : Nat) (st : Nat), i ≤ P.length → st < 2 ^ P.length → Ev (fun k => spec_poBottom.l0 k (s : Int) (st : Int) l (l.length : Int) (i : Int)) ((foldFrom (fun o i => if s.testBit i then (if P.getD i 0 &&& s = 0 then o ||| 2 ^ i else o) else o) i P.length st : Nat) : Int) := by
    refine ev_down (fun k (st : Nat) i => spec_poBottom.l0 k (s : Int) (st : Int) l (l.length : Int) i) (fun i st => ((foldFrom (fun o i => if s.testBit i then (if P.getD i 0 &&& s = 0 then o ||| 2 ^ i else o) else o) i P.length st : Nat) : Int)) P.length (fun _ st => st < 2 ^ P.length) ?_ ?_
    · intro st _
      rw [foldFrom_end]
      exact ev_step (Ev.now _) (fun k => by simp only [spec_poBottom.l0]; rw [if_neg (by omega)])
    · intro i st hi hst ih
      have c1 : (i : Int) < (l.length : Int) := by omega
      have c2 : 0 ≤ (i : Int) := by omega
      have hw : wrap64 ((i : Int) + 1) = (i : Int) + 1 := wrap64_id (by omega) (by omega)
      have hb := poIn_is (s := s) (e := i) (by omega)
      have h2 : 2 ^ i < 2 ^ P.length := Nat.pow_lt_pow_right (by decide) hi
      have ha := and_nat (hP.lt63 i) (p63 hs (by omega))
      have ho := or_nat (p63 hst (by omega)) (p63 h2 (by omega))
      have hsh := shl_one (i := i) (by omega)
      have hr : rd l (i : Int) = ((P.getD i 0 : Nat) : Int) := by rw [hP.eq, rd_cast]
      rw [foldFrom_step _ hi]
      cases hbit : s.testBit i with
      | true =>
        by_cases h0 : P.getD i 0 &&& s = 0
        · rw [if_pos rfl, if_pos h0]
          exact ev_step (ih _ (Nat.or_lt_two_pow hst h2)) (fun k => by simp only [spec_poBottom.l0]; rw [if_pos c1, if_pos c2, if_pos c1, hb, hbit, Option.bind_some, if_pos rfl, hr, ha, if_pos (nat_zero.2 h0), hsh, ho, hw])
        · rw [if_pos rfl, if_neg h0]
          exact ev_step (ih _ hst) (fun k => by simp only [spec_poBottom.l0]; rw [if_pos c1, if_pos c2, if_pos c1, hb, hbit, Option.bind_some, if_pos rfl, hr, ha, if_neg (fun h => h0 (nat_zero.1 h)), hw])
      | false => exact ev_step (ih _ hst) (fun k => by simp only [spec_poBottom.l0]; rw [if_pos c1, if_pos c2, if_pos c1, hb, hbit, Option.bind_some, if_neg (by decide), hw]; rfl)
  unfold spec_poBottom.f
  exact H 0 0 (by omega) (Nat.two_pow_pos _)
end Go.Proofs.Ytkdddlkhildliaa.B

/-! ### Srow -/
/- The ideal behind rowmotion: both sides. -/
namespace Go.Proofs.Ytkdddlkhildliaa.B
open Go.RowKit Go.Proofs.Ytkdddlkhildliaa.M Go.Proofs.YtkdddlkhildliaaW.PrintWords Go.Proofs.YtkdddlkhildliaaW.PrintLast Go.Proofs.YtkdddlkhildliaaW.PrintMore
attribute [local irreducible] Go.bits shl shr sd
theorem tgRow_ev {l : List Int} {P : List Nat} (hP : Good l P) {s : Nat} (hs : s < 2 ^ P.length) : Ev (fun k => spec_tgRow.f k l (s : Int)) ((rw_ P s : Nat) : Int) := by
  have hn := hP.n10
  have hl := hP.length
  have h1 := Nat.one_le_two_pow (n := P.length)
  have hall : 2 ^ P.length - 1 < 2 ^ P.length := by omega
  have hc := andNot_nat (p63 hall (by omega)) (p63 hs (by omega))
  unfold spec_tgRow.f
  refine ev_bind (poBottom_ev hP (sd_lt (b := s) hall)) ?_ (fun k => by rw [hl, mask_sub (by omega), hc])
  exact Ev.bind (poDown_ev hP (bm_lt _)) (Ev.now _)
theorem row_ev {l : List Int} {P : List Nat} (hP : Good l P) {s : Nat} (hs : s < 2 ^ P.length) : Ev (fun k => impl_Poset_row.f k l (s : Int)) ((rw_ P s : Nat) : Int) := by
  have hn := hP.n10
  have hl := hP.length
  have h1 := Nat.one_le_two_pow (n := P.length)
  have hall : 2 ^ P.length - 1 < 2 ^ P.length := by omega
  have hc := andNot_nat (p63 hall (by omega)) (p63 hs (by omega))
  unfold impl_Poset_row.f
  refine ev_bind (bottom_ev hP (sd_lt (b := s) hall)) ?_ (fun k => by rw [all_is l (by omega), Option.bind_some, show l.length = P.length by omega, hc])
  exact Ev.bind (close_ev hP (bm_lt _)) (Ev.now _)
end Go.Proofs.Ytkdddlkhildliaa.B

/-! ### Srob -/
/- Orbits of rowmotion, as the reference tells them. -/
namespace Go.Proofs.Ytkdddlkhildliaa.B
open Go.RowKit Go.Proofs.Ytkdddlkhildliaa.M Go.Proofs.YtkdddlkhildliaaW.PrintWords Go.Proofs.YtkdddlkhildliaaW.PrintLast Go.Proofs.YtkdddlkhildliaaW.PrintMore
attribute [local irreducible] Go.bits shl shr sd
def isId (P : List Nat) (s : Nat) : Prop := s < 2 ^ P.length ∧ idl P s = true
theorem row_motion {l : List Int} {P : List Nat} (hP : Good l P) : Motion (rw_ P) (2 ^ P.length) (isId P) :=
  ⟨fun _ h => h.1, fun s _ => ⟨rw_lt hP s, rw_idl hP s⟩, fun s t hs ht h => by rw [← bk_rw hP hs.1 hs.2, h, bk_rw hP ht.1 ht.2]⟩
theorem obOrbit_ev {l : List Int} {P : List Nat} (hP : Good l P) {s : Nat} (hs : isId P s) : Ev (fun k => spec_obOrbit.f k l (s : Int)) (cast (orb (rw_ P) (2 ^ P.length) s)) := by
  have hn := hP.n10
  have h24 : 2 ^ P.length ≤ 1024 := two_pow_le (j := 10) hn
  have hm := row_motion hP
  obtain ⟨p1, p2, p3, p4⟩ := per_spec hm hs
  have H : ∀ d i, per (rw_ P) (2 ^ P.length) s - i = d → 1 ≤ i → i ≤ per (rw_ P) (2 ^ P.length) s → Ev (fun k => spec_obOrbit.l0 k (s : Int) (cast (orbTo (rw_ P) s i)) ((iter (rw_ P) i s : Nat) : Int) l) (cast (orb (rw_ P) (2 ^ P.length) s)) := by
    intro d
    induction d with
    | zero =>
      intro i hd h1 h2
      have hi : i = per (rw_ P) (2 ^ P.length) s := by omega
      subst hi
      rw [p3]
      exact ev_step (Ev.now _) (fun k => by simp only [spec_obOrbit.l0]; rw [if_pos trivial]; rfl)
    | succ d ih =>
      intro i hd h1 h2
      have hne := p4 i h1 (by omega)
      have hin := iter_in hm hs i
      have hlen : (cast (orbTo (rw_ P) s i)).length < 17592186044416 := by unfold cast; rw [List.length_map, orbTo_length]; omega
      have happ : cast (orbTo (rw_ P) s i) ++ [((iter (rw_ P) i s : Nat) : Int)] = cast (orbTo (rw_ P) s (i + 1)) := by rw [orbTo_succ]; unfold cast; rw [List.map_append]; rfl
      refine ev_stepb (tgRow_ev hP hin.1) ?_ (fun k => by simp only [spec_obOrbit.l0]; rw [if_neg (by omega), if_pos hlen, happ])
      exact ih (i + 1) (by omega) (by omega) (by omega)
  unfold spec_obOrbit.f
  refine Ev.bind (tgRow_ev hP hs.1) ?_
  exact H _ 1 rfl (by omega) p1
end Go.Proofs.Ytkdddlkhildliaa.B

/-! ### Scyr -/
/- Cycles of rowmotion, as the program gathers them. -/
namespace Go.Proofs.Ytkdddlkhildliaa.B
open Go.RowKit Go.Proofs.Ytkdddlkhildliaa.M Go.Proofs.YtkdddlkhildliaaW.PrintWords Go.Proofs.YtkdddlkhildliaaW.PrintLast Go.Proofs.YtkdddlkhildliaaW.PrintMore
attribute [local irreducible] Go.bits shl shr sd
theorem scyr_has (m : List Nat) (x : Nat) : mhas (cast m) (x : Int) = decide (x ∈ m) := by
  unfold mhas cast
  rw [decide_eq_decide, List.mem_map]
  exact ⟨fun ⟨y, h1, h2⟩ => by rw [← Int.ofNat_inj.1 h2]; exact h1, fun h => ⟨x, h, rfl⟩⟩
theorem scyr_put (m : List Nat) (x : Nat) (h : x ∉ m) : mput (cast m) (x : Int) = cast (m ++ [x]) := by
  have h1 := scyr_has m x
  rw [decide_eq_false h] at h1
  unfold mhas at h1
  unfold mput
  rw [if_neg (by simpa using h1)]
  unfold cast
  rw [List.map_append]
  rfl
theorem scyr_l1 {l : List Int} {P : List Nat} (hP : Good l P) (L : List Nat) (hL : L.length ≤ 1024) {i : Nat} (hi : i < L.length) {m : List Nat} (hm : Closed (rw_ P) (isId P) m) {s : Nat} (hs : (isId P) s) (hns : s ∉ m) (w : List (List Int)) (hw : w.length ≤ 1024) (r : List (List Int))
    (hnext : Ev (fun k => impl_cycles_int_at_impl_Poset_row.l0 k (w ++ [cast (orb (rw_ P) (2 ^ P.length) s)]) (cast L) ((cast L).length : Int) ((i : Int) + 1) l (cast (m ++ orb (rw_ P) (2 ^ P.length) s))) r) :
    ∀ d j, per (rw_ P) (2 ^ P.length) s - j = d → j ≤ per (rw_ P) (2 ^ P.length) s → Ev (fun k => impl_cycles_int_at_impl_Poset_row.l1 k w (cast (orbTo (rw_ P) s j)) ((iter (rw_ P) j s : Nat) : Int) (cast L) ((cast L).length : Int) (i : Int) l (cast (m ++ orbTo (rw_ P) s j))) r := by
  have hn := hP.n10
  have h24 : 2 ^ P.length ≤ 1024 := two_pow_le (j := 10) hn
  have hmo := row_motion hP
  obtain ⟨p1, p2, p3, p4⟩ := per_spec hmo hs
  have b1 : -9223372036854775808 ≤ (i : Int) + 1 := by omega
  have b2 : (i : Int) + 1 ≤ 9223372036854775807 := by omega
  have b3 : w.length < 5864062014805 := by omega
  intro d
  induction d with
  | zero =>
    intro j hd hj
    obtain rfl : j = per (rw_ P) (2 ^ P.length) s := by omega
    have hh : mhas (cast (m ++ orbTo (rw_ P) s (per (rw_ P) (2 ^ P.length) s))) ((iter (rw_ P) (per (rw_ P) (2 ^ P.length) s) s : Nat) : Int) = true := by rw [scyr_has]; exact decide_eq_true (back_orb hmo hs)
    exact ev_step hnext (fun k => by simp only [impl_cycles_int_at_impl_Poset_row.l1]; rw [if_pos hh, if_pos b3, wrap64_id b1 b2]; rfl)
  | succ d ih =>
    intro j hd hj
    have hin := iter_in hmo hs j
    have hno := out_orb hmo hm hs hns (show j < per (rw_ P) (2 ^ P.length) s by omega)
    have hh : ¬ mhas (cast (m ++ orbTo (rw_ P) s j)) ((iter (rw_ P) j s : Nat) : Int) = true := by rw [scyr_has, decide_eq_true_eq]; exact hno
    have hlen : (cast (orbTo (rw_ P) s j)).length < 17592186044416 := by unfold cast; rw [List.length_map, orbTo_length]; omega
    have happ : cast (orbTo (rw_ P) s j) ++ [((iter (rw_ P) j s : Nat) : Int)] = cast (orbTo (rw_ P) s (j + 1)) := by rw [orbTo_succ]; unfold cast; rw [List.map_append]; rfl
    have hput : mput (cast (m ++ orbTo (rw_ P) s j)) ((iter (rw_ P) j s : Nat) : Int) = cast (m ++ orbTo (rw_ P) s (j + 1)) := by rw [scyr_put _ _ hno, orbTo_succ, List.append_assoc]
    refine ev_stepb (row_ev hP (And.left hin)) ?_ (fun k => by simp only [impl_cycles_int_at_impl_Poset_row.l1]; rw [if_neg hh, if_pos hlen, happ, hput])
    exact ih (j + 1) (by omega) (by omega)
theorem scyr_ev {l : List Int} {P : List Nat} (hP : Good l P) (L : List Nat) (hL : L.length ≤ 1024) (hLS : ∀ s ∈ L, (isId P) s) : Ev (fun k => impl_cycles_int_at_impl_Poset_row.f k (cast L) l) ((cyc (rw_ P) (2 ^ P.length) [] L).map cast) := by
  have H : ∀ d i (m : List Nat) (w : List (List Int)), L.length - i = d → i ≤ L.length → Closed (rw_ P) (isId P) m → w.length ≤ i → Ev (fun k => impl_cycles_int_at_impl_Poset_row.l0 k w (cast L) ((cast L).length : Int) (i : Int) l (cast m)) (w ++ (cyc (rw_ P) (2 ^ P.length) m (L.drop i)).map cast) := by
    intro d
    induction d with
    | zero =>
      intro i m w hd hi _ _
      rw [show i = L.length by omega, List.drop_length]
      refine ev_eq (ev_step (Ev.now w) (fun k => by simp only [impl_cycles_int_at_impl_Poset_row.l0]; rw [if_neg (by rw [cast_length]; omega)])) ?_
      simp [cyc]
    | succ d ih =>
      intro i m w hd hi hm hw
      obtain ⟨s, he⟩ : ∃ s, L.getD i 0 = s := ⟨_, rfl⟩
      have hmem : s ∈ L := by rw [← he]; exact getD_memN (by omega)
      have hs := hLS s hmem
      have c1 : (i : Int) < ((cast L).length : Int) := by rw [cast_length]; omega
      have c2 : 0 ≤ (i : Int) := by omega
      have hr : rd (cast L) (i : Int) = (s : Int) := by rw [← he]; exact rd_cast L i
      have b1 : -9223372036854775808 ≤ (i : Int) + 1 := by omega
      have b2 : (i : Int) + 1 ≤ 9223372036854775807 := by omega
      have e1 : L.length - (i + 1) = d := by omega
      have e2 : i + 1 ≤ L.length := by omega
      have e3 : w.length ≤ i + 1 := by omega
      have e5 : w.length ≤ 1024 := by omega
      have e6 : i < L.length := by omega
      have e7 : w.length + 1 ≤ i + 1 := by omega
      have e8 : ((i + 1 : Nat) : Int) = (i : Int) + 1 := by omega
      have hw1 : wrap64 ((i : Int) + 1) = (i : Int) + 1 := wrap64_id b1 b2
      rw [drop_step L 0 e6, he]
      unfold cyc
      by_cases hms : s ∈ m
      · rw [if_pos hms]
        have hh : mhas (cast m) (s : Int) = true := by rw [scyr_has]; exact decide_eq_true hms
        have h0 := ih (i + 1) m w e1 e2 hm e3
        rw [e8] at h0
        exact ev_step h0 (fun k => by simp only [impl_cycles_int_at_impl_Poset_row.l0]; rw [if_pos c1, if_pos c2, if_pos c1, hr, if_pos hh, hw1])
      · rw [if_neg hms]
        have hh : ¬ mhas (cast m) (s : Int) = true := by rw [scyr_has, decide_eq_true_eq]; exact hms
        have hmo := row_motion hP
        have h0 := ih (i + 1) (m ++ orb (rw_ P) (2 ^ P.length) s) (w ++ [cast (orb (rw_ P) (2 ^ P.length) s)]) e1 e2 (closed_orb hmo hm hs) (by rw [List.length_append, List.length_singleton]; exact e7)
        rw [e8, List.append_assoc] at h0
        have h1 := scyr_l1 hP L hL e6 hm hs hms w e5 _ h0 _ 0 rfl (Nat.zero_le _)
        refine ev_eq (ev_step h1 (fun k => ?_)) ?_
        · simp only [impl_cycles_int_at_impl_Poset_row.l0]
          rw [if_pos c1, if_pos c2, if_pos c1, hr, if_neg hh]
          show _ = impl_cycles_int_at_impl_Poset_row.l1 k w (cast []) (s : Int) (cast L) ((cast L).length : Int) (i : Int) l (cast (m ++ []))
          rw [List.append_nil]
          rfl
        · rw [List.map_cons]; rfl
  have h0 := H _ 0 [] [] rfl (by omega) (fun x hx => by cases hx) (by simp)
  rw [List.drop_zero, List.nil_append] at h0
  unfold impl_cycles_int_at_impl_Poset_row.f
  exact h0
end Go.Proofs.Ytkdddlkhildliaa.B

/-! ### Mseen -/
/- What has been seen, as a row of yes and no: plain. -/
namespace Go.Proofs.Ytkdddlkhildliaa.B
open Go.RowKit Go.Proofs.Ytkdddlkhildliaa.M Go.Proofs.YtkdddlkhildliaaW.PrintWords Go.Proofs.YtkdddlkhildliaaW.PrintLast Go.Proofs.YtkdddlkhildliaaW.PrintMore
attribute [local irreducible] Go.bits shl shr sd
def Seen (N : Nat) (b : List Bool) (m : List Nat) : Prop := b.length = N ∧ ∀ t, t < N → b.getD t false = decide (t ∈ m)
theorem rdOf_nat (b : List Bool) (t : Nat) : rdOf false b (t : Int) = b.getD t false := by unfold rdOf; rw [Int.toNat_natCast]
theorem seen_none (N : Nat) : Seen N (List.replicate N false) [] := by
  refine ⟨by simp, fun t ht => ?_⟩
  rw [List.getD_eq_getElem?_getD, List.getElem?_replicate, if_pos ht]
  simp
theorem seen_put {N : Nat} {b : List Bool} {m : List Nat} (h : Seen N b m) {x : Nat} (hx : x < N) : Seen N (b.set x true) (m ++ [x]) := by
  obtain ⟨h1, h2⟩ := h
  refine ⟨by rw [List.length_set]; exact h1, fun t ht => ?_⟩
  rw [List.getD_eq_getElem?_getD, List.getElem?_set]
  by_cases he : x = t
  · subst he
    rw [if_pos rfl, if_pos (by omega), Option.getD_some]
    exact (decide_eq_true (by simp)).symm
  · rw [if_neg he, ← List.getD_eq_getElem?_getD, h2 t ht, decide_eq_decide, List.mem_append, List.mem_singleton]
    exact ⟨.inl, fun h => h.elim id (fun h => absurd h.symm he)⟩
/-- How long lists are. -/
def lens (L : List (List Nat)) : List Int := L.map (fun o => (o.length : Int))
theorem lens_cast (L : List (List Nat)) : (L.map cast).map (fun o => (o.length : Int)) = lens L := by
  unfold lens
  rw [List.map_map]
  congr 1
  funext o
  simp [cast]
theorem tog_tog {P : List Nat} {s e : Nat} (hs : idl P s = true) : tog P (tog P s e) e = s := by
  have hx : s ^^^ 2 ^ e ^^^ 2 ^ e = s := by rw [Nat.xor_assoc, Nat.xor_self, Nat.xor_zero]
  cases h : idl P (s ^^^ 2 ^ e) with
  | true =>
    have h1 : tog P s e = s ^^^ 2 ^ e := by unfold tog; rw [h, if_pos rfl]
    rw [h1]
    unfold tog
    rw [hx, hs, if_pos rfl]
  | false =>
    have h1 : tog P s e = s := by unfold tog; rw [h, if_neg (by decide)]
    rw [h1, h1]
end Go.Proofs.Ytkdddlkhildliaa.B

/-! ### Ssets -/
/- All sets for which something holds, in order: a plain law of loops that gather. -/
namespace Go.Proofs.Ytkdddlkhildliaa.B
open Go.RowKit Go.Proofs.Ytkdddlkhildliaa.M Go.Proofs.YtkdddlkhildliaaW.PrintWords Go.Proofs.YtkdddlkhildliaaW.PrintLast Go.Proofs.YtkdddlkhildliaaW.PrintMore
attribute [local irreducible] Go.bits shl shr sd
def setsF (f : Nat → Bool) (i n : Nat) : List Nat := (List.range' i (n - i)).filter f
theorem setsF_end (f : Nat → Bool) (n : Nat) : setsF f n n = [] := by unfold setsF; simp
theorem setsF_step (f : Nat → Bool) {i n : Nat} (h : i < n) : setsF f i n = if f i = true then i :: setsF f (i + 1) n else setsF f (i + 1) n := by
  unfold setsF
  obtain ⟨d, hd⟩ : ∃ d, n - i = d + 1 := ⟨n - i - 1, by omega⟩
  rw [hd, show n - (i + 1) = d by omega, List.range'_succ, List.filter_cons]
theorem mem_setsF (f : Nat → Bool) (n s : Nat) : s ∈ setsF f 0 n ↔ s < n ∧ f s = true := by
  unfold setsF
  rw [List.mem_filter, List.mem_range'_1]
  constructor
  · rintro ⟨h1, h2⟩; exact ⟨by omega, h2⟩
  · rintro ⟨h1, h2⟩; exact ⟨by omega, h2⟩
theorem setsF_length (f : Nat → Bool) (n : Nat) : (setsF f 0 n).length ≤ n := by
  unfold setsF
  refine Nat.le_trans (List.length_filter_le _ _) ?_
  rw [List.length_range']; omega
theorem setsF_congr (f g : Nat → Bool) (n : Nat) (h : ∀ s, s < n → f s = g s) : setsF f 0 n = setsF g 0 n := by
  unfold setsF
  refine List.filter_congr (fun s hs => ?_)
  rw [List.mem_range'_1] at hs
  exact h s (by omega)
theorem pow1024 {n : Nat} (hn : n ≤ 10) : 2 ^ n ≤ 1024 := two_pow_le (j := 10) hn
theorem sets_ev {β : Type} (g : Nat → List Int → Int → Option β) (f : Nat → Bool) (m : Nat) (fin : List Int → β)
    (hend : ∀ st, st.length ≤ m → Ev (fun k => g k st (m : Int)) (fin st))
    (hyes : ∀ (i : Nat) st r, i < m → st.length ≤ i → f i = true → Ev (fun k => g k (st ++ [(i : Int)]) ((i : Int) + 1)) r → Ev (fun k => g k st (i : Int)) r)
    (hno : ∀ (i : Nat) st r, i < m → st.length ≤ i → f i = false → Ev (fun k => g k st ((i : Int) + 1)) r → Ev (fun k => g k st (i : Int)) r) :
    Ev (fun k => g k [] 0) (fin (cast (setsF f 0 m))) := by
  have H : ∀ (i : Nat) (st : List Int), i ≤ m → st.length ≤ i → Ev (fun k => g k st (i : Int)) (fin (st ++ cast (setsF f i m))) := by
    refine ev_down g (fun i st => fin (st ++ cast (setsF f i m))) m (fun i st => st.length ≤ i) ?_ ?_
    · intro st hst
      rw [setsF_end]
      show Ev _ (fin (st ++ []))
      rw [List.append_nil]
      exact hend st hst
    · intro i st hi hst ih
      rw [setsF_step f hi]
      cases hf : f i with
      | true =>
        rw [if_pos rfl]
        have := ih (st ++ [(i : Int)]) (by rw [List.length_append, List.length_singleton]; omega)
        rw [List.append_assoc] at this
        exact hyes i st _ hi hst hf this
      | false =>
        rw [if_neg (by decide)]
        exact hno i st _ hi hst hf (ih st (by omega))
  have := H 0 [] (by omega) (by simp)
  rwa [List.nil_append] at this
end Go.Proofs.Ytkdddlkhildliaa.B

/-! ### Sidl -/
/- Is a set an ideal, as the reference asks. -/
namespace Go.Proofs.Ytkdddlkhildliaa.B
open Go.RowKit Go.Proofs.Ytkdddlkhildliaa.M Go.Proofs.YtkdddlkhildliaaW.PrintWords Go.Proofs.YtkdddlkhildliaaW.PrintLast Go.Proofs.YtkdddlkhildliaaW.PrintMore
attribute [local irreducible] Go.bits shl shr sd
theorem poIdeal_ev {l : List Int} {P : List Nat} (hP : Good l P) {s : Nat} (hs : s < 2 ^ P.length) : Ev (fun k => spec_poIdeal.f k l (s : Int)) (idl P s) := by
  have hn := hP.n10
  have hl := hP.length
  have H : ∀ (i : Nat) (_ : Unit), i ≤ P.length → True → Ev (fun k => spec_poIdeal.l0 k (s : Int) l (l.length : Int) (i : Int)) (allFrom (fun i => !s.testBit i || decide (sd (P.getD i 0) s = 0)) i P.length) := by
    refine ev_down (fun k (_ : Unit) i => spec_poIdeal.l0 k (s : Int) l (l.length : Int) i) (fun i _ => allFrom (fun i => !s.testBit i || decide (sd (P.getD i 0) s = 0)) i P.length) P.length (fun _ _ => True) ?_ ?_
    · intro _ _
      rw [allFrom_end]
      exact ev_step (Ev.now _) (fun k => by simp only [spec_poIdeal.l0]; rw [if_neg (by omega)])
    · intro i _ hi _ ih
      have c1 : (i : Int) < (l.length : Int) := by omega
      have c2 : 0 ≤ (i : Int) := by omega
      have hw : wrap64 ((i : Int) + 1) = (i : Int) + 1 := wrap64_id (by omega) (by omega)
      have hb := poIn_is (s := s) (e := i) (by omega)
      have ho := andNot_nat (hP.lt63 i) (p63 hs (by omega))
      have hr : rd l (i : Int) = ((P.getD i 0 : Nat) : Int) := by rw [hP.eq, rd_cast]
      rw [allFrom_step _ hi]
      cases hbit : s.testBit i with
      | true =>
        by_cases h0 : sd (P.getD i 0) s = 0
        · rw [decide_eq_true h0, Bool.or_true, Bool.true_and]
          exact ev_step (ih () trivial) (fun k => by simp only [spec_poIdeal.l0]; rw [if_pos c1, if_pos c2, if_pos c1, hb, hbit, Option.bind_some, if_pos rfl, hr, ho, if_pos (sd_zero_nat.2 h0), hw])
        · rw [decide_eq_false h0, Bool.not_true, Bool.or_false, Bool.false_and]
          exact ev_step (Ev.now _) (fun k => by simp only [spec_poIdeal.l0]; rw [if_pos c1, if_pos c2, if_pos c1, hb, hbit, Option.bind_some, if_pos rfl, hr, ho, if_neg (fun h => h0 (sd_zero_nat.1 h))])
      | false =>
        rw [Bool.not_false, Bool.true_or, Bool.true_and]
        exact ev_step (ih () trivial) (fun k => by simp only [spec_poIdeal.l0]; rw [if_pos c1, if_pos c2, if_pos c1, hb, hbit, Option.bind_some, if_neg (by decide), hw])
  unfold spec_poIdeal.f
  exact H 0 () (by omega) trivial
end Go.Proofs.Ytkdddlkhildliaa.B

/-! ### Sids -/
/- All ideals: the reference's and the program's. -/
namespace Go.Proofs.Ytkdddlkhildliaa.B
open Go.RowKit Go.Proofs.Ytkdddlkhildliaa.M Go.Proofs.YtkdddlkhildliaaW.PrintWords Go.Proofs.YtkdddlkhildliaaW.PrintLast Go.Proofs.YtkdddlkhildliaaW.PrintMore
attribute [local irreducible] Go.bits shl shr sd
def ids (P : List Nat) : List Nat := setsF (idl P) 0 (2 ^ P.length)
theorem mem_ids {P : List Nat} {s : Nat} : s ∈ ids P ↔ s < 2 ^ P.length ∧ idl P s = true := mem_setsF _ _ _
theorem ids_length {P : List Nat} (h : P.length ≤ 10) : (ids P).length ≤ 1024 := Nat.le_trans (setsF_length _ _) (pow1024 h)
theorem poIdeals_ev {l : List Int} {P : List Nat} (hP : Good l P) : Ev (fun k => spec_poIdeals.f k l) (cast (ids P)) := by
  have hn := hP.n10
  have h2 := pow1024 hn
  have hl := hP.length
  have hs1 : shl .i64 1 (l.length : Int) = ((2 ^ P.length : Nat) : Int) := by rw [hl]; exact shl_one (by omega)
  unfold spec_poIdeals.f ids
  refine sets_ev (fun k st i => spec_poIdeals.l0 k st i l) (idl P) (2 ^ P.length) id ?_ ?_ ?_
  · intro st _
    exact ev_step (Ev.now _) (fun k => by simp only [spec_poIdeals.l0]; rw [hs1, if_neg (by omega)]; rfl)
  · intro i st r hi hst hf ih
    have hw : wrap64 ((i : Int) + 1) = (i : Int) + 1 := wrap64_id (by omega) (by omega)
    have c1 : (i : Int) < ((2 ^ P.length : Nat) : Int) := by omega
    have c2 : st.length < 17592186044416 := by omega
    refine ev_stepb (poIdeal_ev hP hi) ?_ (fun k => by simp only [spec_poIdeals.l0]; rw [hs1, if_pos c1])
    exact ev_as ih (fun k => by rw [hf, if_pos rfl, if_pos c2, hw])
  · intro i st r hi hst hf ih
    have hw : wrap64 ((i : Int) + 1) = (i : Int) + 1 := wrap64_id (by omega) (by omega)
    have c1 : (i : Int) < ((2 ^ P.length : Nat) : Int) := by omega
    refine ev_stepb (poIdeal_ev hP hi) ?_ (fun k => by simp only [spec_poIdeals.l0]; rw [hs1, if_pos c1])
    exact ev_as ih (fun k => by rw [hf, if_neg (by decide), hw])
theorem isId_ev {l : List Int} {P : List Nat} (hP : Good l P) {s : Nat} (hs : s < 2 ^ P.length) : Ev (fun k => impl_Poset_ideals_1_c.f k (s : Int) l) (idl P s) := by
  unfold impl_Poset_ideals_1_c.f
  refine Ev.bind (close_ev hP hs) ?_
  refine ev_eq (Ev.now _) ?_
  rw [idl_dn, Bool.eq_iff_iff, beq_iff_eq, decide_eq_true_eq]
  omega
theorem ideals_ev {l : List Int} {P : List Nat} (hP : Good l P) : Ev (fun k => impl_Poset_ideals.f k l) (cast (ids P)) := by
  have hn := hP.n10
  have h2 := pow1024 hn
  have hp := Nat.one_le_two_pow (n := P.length)
  have hl := hP.length
  have hl' : l.length = P.length := by omega
  have hs1 : wrap64 (((2 ^ P.length - 1 : Nat) : Int) + 1) = ((2 ^ P.length : Nat) : Int) := by rw [wrap64_id (by omega) (by omega)]; omega
  unfold impl_Poset_ideals.f impl_Poset_sets_at_impl_Poset_ideals_1.f ids
  rw [all_is l (by omega)]
  simp only [Option.bind_some, hl', hs1]
  refine Ev.bind ?_ (Ev.now _)
  refine sets_ev (fun k st i => impl_Poset_sets_at_impl_Poset_ideals_1.l0 k st ((2 ^ P.length : Nat) : Int) i l) (idl P) (2 ^ P.length) id ?_ ?_ ?_
  · intro st _
    exact ev_step (Ev.now _) (fun k => by simp only [impl_Poset_sets_at_impl_Poset_ideals_1.l0]; rw [if_neg (by omega)]; rfl)
  · intro i st r hi hst hf ih
    have hw : wrap64 ((i : Int) + 1) = (i : Int) + 1 := wrap64_id (by omega) (by omega)
    have c1 : (i : Int) < ((2 ^ P.length : Nat) : Int) := by omega
    have c2 : st.length < 17592186044416 := by omega
    refine ev_stepb (isId_ev hP hi) ?_ (fun k => by simp only [impl_Poset_sets_at_impl_Poset_ideals_1.l0]; rw [if_pos c1])
    exact ev_as ih (fun k => by rw [hf, if_pos rfl, if_pos c2, hw])
  · intro i st r hi hst hf ih
    have hw : wrap64 ((i : Int) + 1) = (i : Int) + 1 := wrap64_id (by omega) (by omega)
    have c1 : (i : Int) < ((2 ^ P.length : Nat) : Int) := by omega
    refine ev_stepb (isId_ev hP hi) ?_ (fun k => by simp only [impl_Poset_sets_at_impl_Poset_ideals_1.l0]; rw [if_pos c1])
    exact ev_as ih (fun k => by rw [hf, if_neg (by decide), hw])
end Go.Proofs.Ytkdddlkhildliaa.B

/-! ### Sall_ -/
/- All orbits, as the reference gathers them. -/
namespace Go.Proofs.Ytkdddlkhildliaa.B
open Go.RowKit Go.Proofs.Ytkdddlkhildliaa.M Go.Proofs.YtkdddlkhildliaaW.PrintWords Go.Proofs.YtkdddlkhildliaaW.PrintLast Go.Proofs.YtkdddlkhildliaaW.PrintMore
attribute [local irreducible] Go.bits shl shr sd
/-- All orbits of rowmotion. -/
def robits (P : List Nat) : List (List Nat) := cyc (rw_ P) (2 ^ P.length) [] (ids P)
theorem robits_length {P : List Nat} (h : P.length ≤ 10) : (robits P).length ≤ 1024 := Nat.le_trans (cyc_length _ _ _ _) (ids_length h)
theorem obAll_l1 {l : List Int} {P : List Nat} (L : List Nat) (w : List (List Int)) (i : Nat) (hi : i ≤ 1024) (hw : w.length ≤ 1024) (o : List Nat) (ho : o.length ≤ 1024) (hol : ∀ x ∈ o, x < 2 ^ P.length) (r : List (List Int)) (m : List Nat)
    (hnext : ∀ b, Seen (2 ^ P.length) b (m ++ o) → Ev (fun k => spec_obAll.l0 k b (w ++ [cast o]) (cast L) ((cast L).length : Int) ((i : Int) + 1) l) r) :
    ∀ (j : Nat) (b : List Bool), j ≤ o.length → Seen (2 ^ P.length) b (m ++ o.take j) → Ev (fun k => spec_obAll.l1 k b w (cast o) (cast L) ((cast L).length : Int) (i : Int) ((cast o).length : Int) (j : Int) l) r := by
  refine ev_down (fun k (b : List Bool) j => spec_obAll.l1 k b w (cast o) (cast L) ((cast L).length : Int) (i : Int) ((cast o).length : Int) j l) (fun _ _ => r) o.length (fun j b => Seen (2 ^ P.length) b (m ++ o.take j)) ?_ ?_
  · intro b hb
    rw [List.take_length] at hb
    have hw1 : wrap64 ((i : Int) + 1) = (i : Int) + 1 := wrap64_id (by omega) (by omega)
    exact ev_step (hnext b hb) (fun k => by simp only [spec_obAll.l1]; rw [if_neg (by rw [cast_length]; omega), if_pos (by omega), hw1])
  · intro j b hj hb ih
    obtain ⟨x, hx⟩ : ∃ x, o.getD j 0 = x := ⟨_, rfl⟩
    have hm : x < 2 ^ P.length := hol x (by rw [← hx]; exact getD_memN hj)
    have c1 : (j : Int) < ((cast o).length : Int) := by rw [cast_length]; omega
    have c2 : 0 ≤ (j : Int) := by omega
    have c3 : 0 ≤ (x : Int) := by omega
    have c4 : (x : Int) < (b.length : Int) := by rw [hb.1]; omega
    have hr : rd (cast o) (j : Int) = (x : Int) := by rw [← hx]; exact rd_cast o j
    have hw1 : wrap64 ((j : Int) + 1) = (j : Int) + 1 := wrap64_id (by omega) (by omega)
    have ht : o.take (j + 1) = o.take j ++ [x] := by
      rw [List.take_succ_eq_append_getElem hj, ← hx, List.getD_eq_getElem?_getD, List.getElem?_eq_getElem hj, Option.getD_some]
    have hb' := seen_put hb hm
    rw [List.append_assoc, ← ht] at hb'
    exact ev_step (ih _ hb') (fun k => by simp only [spec_obAll.l1]; rw [if_pos c1, if_pos c2, if_pos c1, hr, if_pos c3, if_pos c4, Int.toNat_natCast, hw1])
theorem obAll_ev {l : List Int} {P : List Nat} (hP : Good l P) : Ev (fun k => spec_obAll.f k l) ((robits P).map cast) := by
  have hn := hP.n10
  have hl := hP.length
  have h24 : 2 ^ P.length ≤ 1024 := two_pow_le (j := 10) hn
  have hids := ids_length hn
  have hmo := row_motion hP
  have H : ∀ d i (m : List Nat) (b : List Bool) (w : List (List Int)), (ids P).length - i = d → i ≤ (ids P).length → Closed (rw_ P) (isId P) m → Seen (2 ^ P.length) b m → w.length ≤ i → Ev (fun k => spec_obAll.l0 k b w (cast (ids P)) ((cast (ids P)).length : Int) (i : Int) l) (w ++ (cyc (rw_ P) (2 ^ P.length) m ((ids P).drop i)).map cast) := by
    intro d
    induction d with
    | zero =>
      intro i m b w hd hi _ _ _
      rw [show i = (ids P).length by omega, List.drop_length]
      refine ev_eq (ev_step (Ev.now w) (fun k => by simp only [spec_obAll.l0]; rw [if_neg (by rw [cast_length]; omega)])) ?_
      simp [cyc]
    | succ d ih =>
      intro i m b w hd hi hm hb hw
      obtain ⟨s, he⟩ : ∃ s, (ids P).getD i 0 = s := ⟨_, rfl⟩
      have hmem : s ∈ ids P := by rw [← he]; exact getD_memN (by omega)
      have hs : isId P s := mem_ids.1 hmem
      have hsl := hs.1
      have c1 : (i : Int) < ((cast (ids P)).length : Int) := by rw [cast_length]; omega
      have c2 : 0 ≤ (i : Int) := by omega
      have c3 : 0 ≤ (s : Int) := by omega
      have c4 : (s : Int) < (b.length : Int) := by rw [hb.1]; omega
      have e1 : (ids P).length - (i + 1) = d := by omega
      have e2 : i + 1 ≤ (ids P).length := by omega
      have e3 : w.length ≤ i + 1 := by omega
      have e4 : i ≤ 1024 := by omega
      have e5 : w.length ≤ 1024 := by omega
      have e6 : i < (ids P).length := by omega
      have e7 : w.length + 1 ≤ i + 1 := by omega
      have e8 : ((i + 1 : Nat) : Int) = (i : Int) + 1 := by omega
      have hr : rd (cast (ids P)) (i : Int) = (s : Int) := by rw [← he]; exact rd_cast (ids P) i
      have hw1 : wrap64 ((i : Int) + 1) = (i : Int) + 1 := wrap64_id (by omega) (by omega)
      have hsee : rdOf false b (s : Int) = decide (s ∈ m) := by rw [rdOf_nat]; exact hb.2 s hsl
      rw [drop_step (ids P) 0 e6, he]
      unfold cyc
      by_cases hms : s ∈ m
      · rw [if_pos hms]
        rw [decide_eq_true hms] at hsee
        have h0 := ih (i + 1) m b w e1 e2 hm hb e3
        rw [e8] at h0
        exact ev_step h0 (fun k => by simp only [spec_obAll.l0]; rw [if_pos c1, if_pos c2, if_pos c1, hr, if_pos c3, if_pos c4, if_pos hsee, hw1])
      · rw [if_neg hms]
        rw [decide_eq_false hms] at hsee
        have hol : (orb (rw_ P) (2 ^ P.length) s).length ≤ 1024 := Nat.le_trans (orb_length hmo hs).2 h24
        have h1 := obAll_l1 (l := l) (P := P) (ids P) w i e4 e5 (orb (rw_ P) (2 ^ P.length) s) hol (fun x hx => (mem_orb hmo hs hx).1) (w ++ (cast (orb (rw_ P) (2 ^ P.length) s) :: (cyc (rw_ P) (2 ^ P.length) (m ++ orb (rw_ P) (2 ^ P.length) s) ((ids P).drop (i + 1))).map cast)) m (fun b' hb' => by
          have h0 := ih (i + 1) (m ++ orb (rw_ P) (2 ^ P.length) s) b' (w ++ [cast (orb (rw_ P) (2 ^ P.length) s)]) e1 e2 (closed_orb hmo hm hs) hb' (by rw [List.length_append, List.length_singleton]; exact e7)
          rw [e8, List.append_assoc] at h0
          exact h0) 0 b (Nat.zero_le _) (by rw [List.take_zero, List.append_nil]; exact hb)
        refine ev_stepb (obOrbit_ev hP hs) ?_ (fun k => by simp only [spec_obAll.l0]; rw [if_pos c1, if_pos c2, if_pos c1, hr, if_pos c3, if_pos c4, hsee, if_neg (by decide)])
        rw [List.map_cons]
        exact h1
  have hs1 : shl .i64 1 (l.length : Int) = ((2 ^ P.length : Nat) : Int) := by rw [hl]; exact shl_one (by omega)
  unfold spec_obAll.f robits
  refine ev_bind (poIdeals_ev hP) ?_ (fun k => by rw [hs1, if_pos (Int.natCast_nonneg _), Int.toNat_natCast, if_pos (Nat.le_trans h24 (by decide))])
  have h0 := H _ 0 [] _ [] rfl (by omega) (fun x hx => by cases hx) (seen_none _) (by simp)
  rw [List.drop_zero, List.nil_append] at h0
  exact h0
end Go.Proofs.Ytkdddlkhildliaa.B

/-! ### Sorbs -/
/- All orbits of rowmotion, as the program gathers them. -/
namespace Go.Proofs.Ytkdddlkhildliaa.B
open Go.RowKit Go.Proofs.Ytkdddlkhildliaa.M Go.Proofs.YtkdddlkhildliaaW.PrintWords Go.Proofs.YtkdddlkhildliaaW.PrintLast Go.Proofs.YtkdddlkhildliaaW.PrintMore
attribute [local irreducible] Go.bits shl shr sd
theorem orbits_ev {l : List Int} {P : List Nat} (hP : Good l P) : Ev (fun k => impl_Poset_orbits.f k l) ((robits P).map cast) := by
  unfold impl_Poset_orbits.f robits
  refine Ev.bind (ideals_ev hP) ?_
  exact Ev.bind (scyr_ev hP (ids P) (ids_length hP.n10) (fun s hs => mem_ids.1 hs)) (Ev.now _)
end Go.Proofs.Ytkdddlkhildliaa.B

/-! ### L -/
/- What the laws' own helpers answer: sizes, copies, comparisons. -/
namespace Go.Proofs.Ytkdddlkhildliaa.B
open Go.RowKit Go.Proofs.Ytkdddlkhildliaa.M Go.Proofs.YtkdddlkhildliaaW.PrintWords Go.Proofs.YtkdddlkhildliaaW.PrintLast Go.Proofs.YtkdddlkhildliaaW.PrintMore
attribute [local irreducible] Go.bits shl shr sd
theorem sz_is (l : List Int) (hl : l.length ≤ 9223372036854775807) : laws_szPoset.f l 1048576 = some (if l.length ≤ 1048576 then 1048576 - (l.length : Int) else -1) := by
  unfold laws_szPoset.f laws_szIntS.f
  rw [wrap64_id (by omega) (by omega)]
  by_cases h : l.length ≤ 1048576
  · rw [if_neg (by omega), Option.bind_some, if_neg (by omega), if_pos h]
  · rw [if_pos (by omega), Option.bind_some, if_pos (by omega), if_neg h]
/-- The law's look at its poset's size. -/
theorem sz_bind {β : Type} (l : List Int) (hl : l.length ≤ 9223372036854775807) (F : Nat → Option β) (r r0 : β) (h : l.length ≤ 1048576 → Ev F r) (h2 : 1048576 < l.length → r = r0) :
    Ev (fun k => (laws_szPoset.f l 1048576).bind fun t => if t < 0 then some r0 else F k) r := by
  rw [sz_is l hl]
  by_cases hc : l.length ≤ 1048576
  · exact ev_as (h hc) (fun k => by rw [Option.bind_some, if_pos hc, if_neg (by omega)])
  · rw [h2 (by omega)]
    exact ev_as (Ev.now _) (fun k => by rw [Option.bind_some, if_neg hc, if_pos (by decide)])
theorem toIntS_l0 (l : List Int) (hl : l.length ≤ 35184372088832) : ∀ (i : Nat) (st : List Int), i ≤ l.length → (st.length = l.length ∧ ∀ j, j < i → st.getD j 0 = l.getD j 0) → Ev (fun k => laws_toIntS.l0 k l st (i : Int)) l := by
  refine ev_down (fun k (st : List Int) i => laws_toIntS.l0 k l st i) (fun _ _ => l) l.length (fun i st => st.length = l.length ∧ ∀ j, j < i → st.getD j 0 = l.getD j 0) ?_ ?_
  · rintro st ⟨h1, h2⟩
    have : st = l := List.ext_getElem h1 (fun i hi hi' => by
      have := h2 i hi'
      simpa [List.getD_eq_getElem?_getD, List.getElem?_eq_getElem hi, List.getElem?_eq_getElem hi'] using this)
    subst this
    exact ev_step (Ev.now _) (fun k => by simp only [laws_toIntS.l0]; rw [if_neg (by omega)])
  · rintro i st hi ⟨h1, h2⟩ ih
    have c1 : (i : Int) < (l.length : Int) := by omega
    have c2 : 0 ≤ (i : Int) := by omega
    have c3 : (i : Int) < (st.length : Int) := by omega
    have hw : wrap64 ((i : Int) + 1) = (i : Int) + 1 := wrap64_id (by omega) (by omega)
    refine ev_step (ih (st.set i (rd l (i : Int))) ⟨by rw [List.length_set]; exact h1, fun j hj => ?_⟩) (fun k => by simp only [laws_toIntS.l0]; rw [if_pos c1, if_pos c2, if_pos c3, hw, Int.toNat_natCast])
    rw [rd_nat, List.getD_eq_getElem?_getD, List.getElem?_set]
    by_cases h : i = j
    · subst h
      rw [if_pos rfl, if_pos (by omega), Option.getD_some]
    · rw [if_neg h, ← List.getD_eq_getElem?_getD]
      exact h2 j (by omega)
theorem toIntS_ev (l : List Int) (hl : l.length ≤ 35184372088832) : Ev (fun k => laws_toIntS.f k l) l := by
  unfold laws_toIntS.f
  refine ev_as (toIntS_l0 l hl 0 (List.replicate ((l.length : Int)).toNat 0) (by omega) ⟨by simp, fun j h => absurd h (by omega)⟩) (fun k => ?_)
  rw [if_pos (by omega), if_pos (by omega)]
  rfl
theorem toPoset_ev (l : List Int) (hl : l.length ≤ 35184372088832) : Ev (fun k => laws_toPoset.f k l) l := by
  unfold laws_toPoset.f
  exact Ev.bind (toIntS_ev l hl) (Ev.now _)
theorem eqIntS_l0 (l : List Int) (hl : l.length ≤ 35184372088832) : ∀ (i : Nat) (_ : Unit), i ≤ l.length → True → Ev (fun k => laws_eqIntS.l0 k l l (i : Int)) true := by
  refine ev_down (fun k (_ : Unit) i => laws_eqIntS.l0 k l l i) (fun _ _ => true) l.length (fun _ _ => True) ?_ ?_
  · intro _ _
    exact ev_step (Ev.now _) (fun k => by simp only [laws_eqIntS.l0]; rw [if_neg (by omega)])
  · intro i _ hi _ ih
    have c1 : (i : Int) < (l.length : Int) := by omega
    have hw : wrap64 ((i : Int) + 1) = (i : Int) + 1 := wrap64_id (by omega) (by omega)
    exact ev_step (ih () trivial) (fun k => by simp only [laws_eqIntS.l0]; rw [if_pos c1, if_pos (by omega), if_pos c1, if_pos trivial, hw])
theorem eqIntS_ev (l : List Int) (hl : l.length ≤ 35184372088832) : Ev (fun k => laws_eqIntS.f k l l) true := by
  unfold laws_eqIntS.f
  exact ev_as (eqIntS_l0 l hl 0 () (by omega) trivial) (fun k => by rw [if_pos rfl]; rfl)
theorem eqPoset_ev (l : List Int) (hl : l.length ≤ 35184372088832) : Ev (fun k => laws_eqPoset.f k l l) true := by
  unfold laws_eqPoset.f
  exact Ev.bind (eqIntS_ev l hl) (Ev.now _)
end Go.Proofs.Ytkdddlkhildliaa.B

/-! ### Lm -/
/- Marks: what is written into a list that was handed back, and found there again. -/
namespace Go.Proofs.Ytkdddlkhildliaa.B
open Go.RowKit Go.Proofs.Ytkdddlkhildliaa.M Go.Proofs.YtkdddlkhildliaaW.PrintWords Go.Proofs.YtkdddlkhildliaaW.PrintLast Go.Proofs.YtkdddlkhildliaaW.PrintMore
attribute [local irreducible] Go.bits shl shr sd
/-- The list with its places numbered from k on. -/
def marked (l : List Int) (k : Int) : List Int := (List.range l.length).map (fun j : Nat => k + (j : Int))
theorem markIntS_l0 (l : List Int) (k0 : Int) (hl : l.length ≤ 35184372088832) (h0 : 0 ≤ k0) (h1 : k0 ≤ 35184372088832) : ∀ (i : Nat) (st : List Int), i ≤ l.length → (st.length = l.length ∧ ∀ j, j < i → st.getD j 0 = k0 + (j : Int)) →
    Ev (fun k => laws_markIntS.l0 k st (k0 + (i : Int)) (i : Int)) (k0 + (l.length : Int), marked l k0) := by
  have H := ev_down (fun k (st : List Int) i => laws_markIntS.l0 k st (k0 + i) i) (fun _ _ => (k0 + (l.length : Int), marked l k0)) l.length (fun i st => st.length = l.length ∧ ∀ j, j < i → st.getD j 0 = k0 + (j : Int)) ?_ ?_
  · exact H
  · rintro st ⟨h2, h3⟩
    have : st = marked l k0 := by
      unfold marked
      apply List.ext_getElem
      · simpa using h2
      · intro i hi hi'
        have := h3 i (by omega)
        rw [List.getD_eq_getElem?_getD, List.getElem?_eq_getElem hi] at this
        simpa using this
    rw [this]
    exact ev_step (Ev.now _) (fun k => by simp only [laws_markIntS.l0]; rw [if_neg (by unfold marked; simp)])
  · rintro i st hi ⟨h2, h3⟩ ih
    have c1 : (i : Int) < (st.length : Int) := by omega
    have hw : wrap64 ((i : Int) + 1) = (i : Int) + 1 := wrap64_id (by omega) (by omega)
    have hw2 : wrap64 (k0 + (i : Int) + 1) = k0 + ((i : Int) + 1) := by rw [wrap64_id (by omega) (by omega)]; omega
    refine ev_step (ih (st.set i (k0 + (i : Int))) ⟨by rw [List.length_set]; exact h2, fun j hj => ?_⟩) (fun k => by simp only [laws_markIntS.l0]; rw [if_pos c1, if_pos (by omega), hw, hw2, Int.toNat_natCast])
    rw [List.getD_eq_getElem?_getD, List.getElem?_set]
    by_cases h : i = j
    · subst h
      rw [if_pos rfl, if_pos (by omega), Option.getD_some]
    · rw [if_neg h, ← List.getD_eq_getElem?_getD]
      exact h3 j (by omega)
theorem markIntS_ev (l : List Int) (k0 : Int) (hl : l.length ≤ 35184372088832) (h0 : 0 ≤ k0) (h1 : k0 ≤ 35184372088832) : Ev (fun k => laws_markIntS.f k l k0) (k0 + (l.length : Int), marked l k0) := by
  unfold laws_markIntS.f
  have := markIntS_l0 l k0 hl h0 h1 0 l (by omega) ⟨rfl, fun j h => absurd h (by omega)⟩
  simpa using this
theorem markPoset_ev (l : List Int) (k0 : Int) (hl : l.length ≤ 35184372088832) (h0 : 0 ≤ k0) (h1 : k0 ≤ 35184372088832) : Ev (fun k => laws_markPoset.f k l k0) (k0 + (l.length : Int), marked l k0) := by
  unfold laws_markPoset.f
  exact Ev.bind (markIntS_ev l k0 hl h0 h1) (Ev.now _)
theorem marked_length (l : List Int) (k : Int) : (marked l k).length = l.length := by unfold marked; simp
theorem marked_getD (l : List Int) (k : Int) {j : Nat} (h : j < l.length) : (marked l k).getD j 0 = k + (j : Int) := by
  unfold marked
  simp [List.getD_eq_getElem?_getD, h]
theorem heldIntS_ev (l : List Int) (k0 : Int) (hl : l.length ≤ 35184372088832) (h0 : 0 ≤ k0) (h1 : k0 ≤ 35184372088832) : Ev (fun k => laws_heldIntS.f k (marked l k0) k0) (k0 + (l.length : Int)) := by
  have H := ev_down (fun k (_ : Unit) i => laws_heldIntS.l0 k (marked l k0) (k0 + i) i) (fun _ _ => k0 + (l.length : Int)) l.length (fun _ _ => True) ?_ ?_ 0 () (by omega) trivial
  · unfold laws_heldIntS.f
    simpa using H
  · intro _ _
    exact ev_step (Ev.now _) (fun k => by simp only [laws_heldIntS.l0]; rw [if_neg (by rw [marked_length]; omega)])
  · intro i _ hi _ ih
    have c1 : (i : Int) < ((marked l k0).length : Int) := by rw [marked_length]; omega
    have hw : wrap64 ((i : Int) + 1) = (i : Int) + 1 := wrap64_id (by omega) (by omega)
    have hw2 : wrap64 (k0 + (i : Int) + 1) = k0 + ((i : Int) + 1) := by rw [wrap64_id (by omega) (by omega)]; omega
    exact ev_step (ih () trivial) (fun k => by simp only [laws_heldIntS.l0]; rw [if_pos c1, if_pos (by omega), rd_nat, marked_getD l k0 hi, if_pos rfl, hw, hw2])
end Go.Proofs.Ytkdddlkhildliaa.B

/-! ### Lss -/
/- Rows of rows: compared, marked, found again. -/
namespace Go.Proofs.Ytkdddlkhildliaa.B
open Go.RowKit Go.Proofs.Ytkdddlkhildliaa.M Go.Proofs.YtkdddlkhildliaaW.PrintWords Go.Proofs.YtkdddlkhildliaaW.PrintLast Go.Proofs.YtkdddlkhildliaaW.PrintMore
attribute [local irreducible] Go.bits shl shr sd
def tot : List (List Int) → Nat
  | [] => 0
  | o :: t => o.length + tot t
/-- The rows with their places numbered from k on. -/
def markedSS : List (List Int) → Int → List (List Int)
  | [], _ => []
  | o :: t, k => marked o k :: markedSS t (k + (o.length : Int))
theorem tot_cons (o : List Int) (t : List (List Int)) : tot (o :: t) = o.length + tot t := rfl
theorem markedSS_cons (o : List Int) (t : List (List Int)) (k : Int) : markedSS (o :: t) k = marked o k :: markedSS t (k + (o.length : Int)) := rfl
theorem rdL_at (pre : List (List Int)) (o : List Int) (t : List (List Int)) : rd_L1 (pre ++ o :: t) (pre.length : Int) = o := by
  unfold rd_L1
  rw [Int.toNat_natCast, List.getD_eq_getElem?_getD, List.getElem?_append_right (Nat.le_refl _), Nat.sub_self]
  rfl
theorem set_at (pre : List (List Int)) (o o' : List Int) (t : List (List Int)) : (pre ++ o :: t).set pre.length o' = (pre ++ [o']) ++ t := by
  rw [List.set_append_right _ _ (Nat.le_refl _), Nat.sub_self, List.append_assoc]
  rfl
theorem mem_tot : ∀ {R : List (List Int)} {o : List Int}, o ∈ R → o.length ≤ tot R
  | [], _, h => by cases h
  | x :: t, o, h => by
    rw [tot_cons]
    rcases List.mem_cons.1 h with rfl | h
    · omega
    · have := mem_tot h
      omega
theorem eqIntSS_ev (R : List (List Int)) (hR : R.length ≤ 4194304) (hT : tot R ≤ 4194304) : Ev (fun k => laws_eqIntSS.f k R R) true := by
  have H : ∀ (S pre : List (List Int)), pre ++ S = R → Ev (fun k => laws_eqIntSS.l0 k R R (pre.length : Int)) true := by
    intro S
    induction S with
    | nil =>
      intro pre h
      rw [List.append_nil] at h
      subst h
      exact ev_step (Ev.now _) (fun k => by simp only [laws_eqIntSS.l0]; rw [if_neg (by omega)])
    | cons o t ih =>
      intro pre h
      have hl : R.length = pre.length + (t.length + 1) := by rw [← h, List.length_append, List.length_cons]
      have c1 : (pre.length : Int) < (R.length : Int) := by omega
      have hw : wrap64 ((pre.length : Int) + 1) = (pre.length : Int) + 1 := wrap64_id (by omega) (by omega)
      have hr : rd_L1 R (pre.length : Int) = o := by rw [← h]; exact rdL_at pre o t
      have ho : o.length ≤ tot R := mem_tot (by rw [← h]; simp)
      have h2 := ih (pre ++ [o]) (by rw [List.append_assoc]; exact h)
      rw [List.length_append, List.length_singleton, Int.natCast_add] at h2
      refine ev_stepb (eqIntS_ev o (by omega)) ?_ (fun k => by simp only [laws_eqIntSS.l0]; rw [if_pos c1, if_pos (by omega), if_pos c1, hr])
      exact ev_as h2 (fun k => by rw [if_pos rfl, hw]; rfl)
  unfold laws_eqIntSS.f
  exact ev_as (H R [] rfl) (fun k => by rw [if_pos rfl]; rfl)
theorem markIntSS_l0 : ∀ (S pre : List (List Int)) (kk : Int), pre.length + S.length ≤ 4194304 → 0 ≤ kk → kk + (tot S : Int) ≤ 8388608 → Ev (fun k => laws_markIntSS.l0 k (pre ++ S) kk (pre.length : Int)) (kk + (tot S : Int), pre ++ markedSS S kk)
  | [], pre, kk, _, _, _ => by
    rw [List.append_nil]
    refine ev_eq (ev_step (Ev.now (kk, pre)) (fun k => by simp only [laws_markIntSS.l0]; rw [if_neg (by omega)])) ?_
    simp [tot, markedSS]
  | o :: t, pre, kk, h1, h2, h3 => by
    rw [tot_cons] at h3
    rw [List.length_cons] at h1
    rw [Int.natCast_add] at h3
    have c1 : (pre.length : Int) < ((pre ++ o :: t).length : Int) := by rw [List.length_append, List.length_cons]; omega
    have hw : wrap64 ((pre.length : Int) + 1) = (pre.length : Int) + 1 := wrap64_id (by omega) (by omega)
    have h4 := markIntSS_l0 t (pre ++ [marked o kk]) (kk + (o.length : Int)) (by rw [List.length_append, List.length_singleton]; omega) (by omega) (by omega)
    rw [List.length_append, List.length_singleton, Int.natCast_add] at h4
    refine ev_stepb (markIntS_ev o kk (by omega) h2 (by omega)) ?_ (fun k => by simp only [laws_markIntSS.l0]; rw [if_pos c1, if_pos (by omega), rdL_at])
    refine ev_eq (ev_as h4 (fun k => by rw [Int.toNat_natCast, set_at, hw]; rfl)) ?_
    rw [tot_cons, markedSS_cons, Int.natCast_add, Int.add_assoc, List.append_assoc]
    rfl
theorem markIntSS_ev (R : List (List Int)) (hR : R.length ≤ 4194304) (hT : tot R ≤ 4194304) : Ev (fun k => laws_markIntSS.f k R 1) (1 + (tot R : Int), markedSS R 1) := by
  unfold laws_markIntSS.f
  exact markIntSS_l0 R [] 1 (by simpa using hR) (by omega) (by omega)
theorem heldIntSS_l0 : ∀ (S pre : List (List Int)) (kk : Int), pre.length + S.length ≤ 4194304 → 0 ≤ kk → kk + (tot S : Int) ≤ 8388608 → Ev (fun k => laws_heldIntSS.l0 k (pre ++ markedSS S kk) kk (pre.length : Int)) (kk + (tot S : Int))
  | [], pre, kk, _, _, _ => by
    show Ev (fun k => laws_heldIntSS.l0 k (pre ++ []) kk (pre.length : Int)) (kk + (tot [] : Int))
    rw [List.append_nil]
    refine ev_eq (ev_step (Ev.now kk) (fun k => by simp only [laws_heldIntSS.l0]; rw [if_neg (by omega)])) ?_
    simp [tot]
  | o :: t, pre, kk, h1, h2, h3 => by
    rw [tot_cons] at h3
    rw [List.length_cons] at h1
    rw [Int.natCast_add] at h3
    rw [markedSS_cons]
    have c1 : (pre.length : Int) < ((pre ++ marked o kk :: markedSS t (kk + (o.length : Int))).length : Int) := by rw [List.length_append, List.length_cons]; omega
    have hw : wrap64 ((pre.length : Int) + 1) = (pre.length : Int) + 1 := wrap64_id (by omega) (by omega)
    have h4 := heldIntSS_l0 t (pre ++ [marked o kk]) (kk + (o.length : Int)) (by rw [List.length_append, List.length_singleton]; omega) (by omega) (by omega)
    rw [List.length_append, List.length_singleton, Int.natCast_add, List.append_assoc] at h4
    refine ev_stepb (heldIntS_ev o kk (by omega) h2 (by omega)) ?_ (fun k => by simp only [laws_heldIntSS.l0]; rw [if_pos c1, if_pos (by omega), rdL_at])
    refine ev_eq (ev_as h4 (fun k => by rw [if_neg (by omega), hw]; rfl)) ?_
    rw [tot_cons, Int.natCast_add, Int.add_assoc]
theorem heldIntSS_ev (R : List (List Int)) (hR : R.length ≤ 4194304) (hT : tot R ≤ 4194304) : Ev (fun k => laws_heldIntSS.f k (markedSS R 1) 1) (1 + (tot R : Int)) := by
  unfold laws_heldIntSS.f
  exact heldIntSS_l0 R [] 1 (by simpa using hR) (by omega) (by omega)
end Go.Proofs.Ytkdddlkhildliaa.B

/-! ### PureFnExactAllOrbits -/
/- The plain law of AllOrbits: the two printed functions answer alike. -/
namespace Go.Proofs.Ytkdddlkhildliaa.B
open Go.RowKit Go.Proofs.Ytkdddlkhildliaa.M Go.Proofs.YtkdddlkhildliaaW.PrintWords Go.Proofs.YtkdddlkhildliaaW.PrintLast Go.Proofs.YtkdddlkhildliaaW.PrintMore
attribute [local irreducible] Go.bits shl shr sd
theorem tot_cast : ∀ (C : List (List Nat)), (∀ o ∈ C, o.length ≤ 1024) → tot (C.map cast) ≤ 1024 * C.length
  | [], _ => by simp [tot]
  | c :: t, h => by
    have h1 := tot_cast t (fun c hc => h c (List.mem_cons_of_mem _ hc))
    have h2 := h c List.mem_cons_self
    have h3 : ((cast c).length : Int) = (c.length : Int) := cast_length c
    rw [List.map_cons, tot_cons, List.length_cons]
    omega
theorem both_AllOrbits (l : List Int) : ∃ w b, w.length ≤ 1024 ∧ tot w ≤ 1048576 ∧ Ev (fun k => spec_AllOrbits.f k l) (w, b) ∧ Ev (fun k => impl_AllOrbits.f k l) (w, b) := by
  unfold spec_AllOrbits.f impl_AllOrbits.f
  cases hg : goodB l with
  | false => exact ⟨[], false, by simp, by simp [tot], Ev.bind (hg ▸ poGood_ev l) (ev_as (Ev.now _) (fun k => by rw [if_neg (by decide)])), Ev.bind (hg ▸ IsPoset_ev l) (ev_as (Ev.now _) (fun k => by rw [if_neg (by decide)]))⟩
  | true =>
    obtain ⟨P, hP⟩ := good_of hg
    have h24 : 2 ^ P.length ≤ 1024 := two_pow_le (j := 10) hP.n10
    have hlen := robits_length hP.n10
    have ht := tot_cast (robits P) (fun o ho => by
      obtain ⟨s, hs, rfl⟩ := cyc_mem (S := isId P) (ids P) [] (fun s hs => mem_ids.1 hs) o ho
      exact Nat.le_trans (orb_length (row_motion hP) hs).2 h24)
    refine ⟨(robits P).map cast, true, by rw [List.length_map]; exact hlen, by omega, Ev.bind (hg ▸ poGood_ev l) ?_, Ev.bind (hg ▸ IsPoset_ev l) ?_⟩
    · exact ev_bind (obAll_ev hP) (Ev.now _) (fun k => by rw [if_pos rfl])
    · exact ev_bind (orbits_ev hP) (Ev.now _) (fun k => by rw [if_pos rfl])
theorem tail_AllOrbits (l : List Int) (w : List (List Int)) (b : Bool) (h : l.length ≤ 1048576) (hw : w.length ≤ 4194304) (ht : tot w ≤ 4194304) (h2 : Ev (fun k => impl_AllOrbits.f k l) (w, b)) : Ev (fun k => laws_FnExactAllOrbits.j0 k w b w b false l l) true := by
  have e2 : Ev (fun k => laws_FnExactAllOrbits.j2 k (markedSS w 1) (1 + (tot w : Int)) false) true := by
    refine ev_stepb (heldIntSS_ev w hw ht) ?_ (fun k => by simp only [laws_FnExactAllOrbits.j2]; rw [if_neg (by decide)])
    exact ev_as (Ev.now _) (fun k => by rw [if_neg (by omega), if_pos rfl])
  have e1 : Ev (fun k => laws_FnExactAllOrbits.j1 k w b w false l) true := by
    refine ev_stepb (markIntSS_ev w hw ht) ?_ (fun k => by simp only [laws_FnExactAllOrbits.j1]; rw [if_neg (by decide)])
    refine ev_bind (heldIntSS_ev w hw ht) ?_ (fun k => rfl)
    refine ev_bind (toPoset_ev l (by omega)) ?_ (fun k => by rw [if_neg (by omega), if_pos rfl])
    refine ev_bind h2 ?_ (fun k => rfl)
    refine ev_bind (eqIntSS_ev w hw ht) ?_ (fun k => rfl)
    exact ev_as e2 (fun k => by rw [if_pos rfl, bne_self_eq_false])
  refine ev_stepb (toPoset_ev l (by omega)) ?_ (fun k => by simp only [laws_FnExactAllOrbits.j0]; rw [if_neg (by decide)])
  refine ev_bind (eqPoset_ev l (by omega)) ?_ (fun k => rfl)
  refine ev_bind (markPoset_ev l 1 (by omega) (by omega) (by omega)) ?_ (fun k => by rw [if_pos rfl])
  refine ev_bind (eqIntSS_ev w hw ht) ?_ (fun k => by rw [if_neg (by omega)])
  exact ev_as e1 (fun k => by rw [if_pos rfl, bne_self_eq_false])
theorem FnExactAllOrbits (l : List Int) (hm : l.length ≤ 9223372036854775807) (_ : ∀ x ∈ l, (Lit.int .i64 x).wf = true) : ∃ k, laws_FnExactAllOrbits.f k l = some true := by
  apply Ev.rounds
  unfold laws_FnExactAllOrbits.f
  refine sz_bind l hm _ true true (fun h => ?_) (fun _ => rfl)
  obtain ⟨w, b, hw, ht, h1, h2⟩ := both_AllOrbits l
  refine Ev.bind (toPoset_ev l (by omega)) ?_
  refine Ev.bind h1 ?_
  refine Ev.bind (toPoset_ev l (by omega)) ?_
  refine Ev.bind h2 ?_
  refine Ev.bind (eqIntSS_ev w (by omega) (by omega)) ?_
  exact ev_as (tail_AllOrbits l w b h (by omega) (by omega) h2) (fun k => by rw [if_pos rfl, bne_self_eq_false])
end Go.Proofs.Ytkdddlkhildliaa.B
