/-
  What the printed functions of vec, of set and of their references answer.
-/
import Derived.Test.YtihcolmkfmdbaaaDoorPIdx5
import Derived.Test.YtihcolmkfmdbaaaDoorPIdx11
import Derived.Test.YtihcolmkfmdbaaaDoorPIdx6
import Derived.Test.YtihcolmkfmdbaaaDoorIPlain
import Derived.Laws.BitsLemmas
namespace Go.Proofs.YtihcolmkfmdbaaaDoor.PId
open Go.RowKit Go.Proofs.YtihcolmkfmdbaaaDoorW.PrintWords Go.Proofs.YtihcolmkfmdbaaaDoorW.PrintLast Go.Proofs.YtihcolmkfmdbaaaDoorW.PrintMore

theorem obind {α β : Type} (a : α) (f : α → Option β) : (some a).bind f = f a := (Option.bind_some a f).trans (Eq.refl (f a))
theorem wrap64_in' (n : Int) (h : -9223372036854775808 ≤ n) (h1 : n ≤ 9223372036854775807) : wrap64 n = n := by unfold wrap64; omega
theorem rd_at (l : List Int) (j : Nat) (h : j < l.length) : rd l (j : Int) = l[j] := by
  simp [rd, List.getElem?_eq_getElem h]
theorem rdL_at (l : List (List Int)) (j : Nat) (h : j < l.length) : rd_L1 l (j : Int) = l[j] := by
  simp [rd_L1, List.getElem?_eq_getElem h]

theorem drop_at {α : Type} (l : List α) (j : Nat) (h : j < l.length) : l.drop j = l[j] :: l.drop (j + 1) := List.drop_eq_getElem_cons h

theorem dec_eq {x y : Int} {l m : List Int} (e : x = y) : decide (x :: l = y :: m) = decide (l = m) := by subst e; simp
theorem dec_ne {x y : Int} {l m : List Int} (e : x ≠ y) : decide (x :: l = y :: m) = false := by
  apply decide_eq_false
  intro h
  exact e (List.cons.inj h).1

/-! ### the same? -/
theorem same_loop (d : Nat) : ∀ (k : Nat) (a b : List Int) (j : Nat), a.length = b.length → a.length ≤ j + d → j ≤ a.length → a.length ≤ 1000 → d < k →
    caucusref02_Same.l0 k a b (j : Int) = some (decide (a.drop j = b.drop j)) := by
  induction d with
  | zero =>
    intro k a b j hl hd hj _ hk
    obtain ⟨k, rfl⟩ : ∃ m, k = m + 1 := ⟨k - 1, by omega⟩
    simp only [caucusref02_Same.l0]
    rw [if_neg (by omega), List.drop_of_length_le (by omega), List.drop_of_length_le (by omega)]
    rfl
  | succ d ih =>
    intro k a b j hl hd hj hs hk
    obtain ⟨k, rfl⟩ : ∃ m, k = m + 1 := ⟨k - 1, by omega⟩
    by_cases hlt : j < a.length
    · simp only [caucusref02_Same.l0]
      rw [if_pos (by omega), if_pos (by omega), if_pos (by omega), rd_at a j hlt, rd_at b j (by omega), drop_at a j hlt, drop_at b j (by omega)]
      by_cases e : a[j] = b[j]'(by omega)
      · rw [if_pos e, wrap64_in' _ (by omega) (by omega)]
        have h := ih k a b (j + 1) hl (by omega) (by omega) hs (by omega)
        rw [show ((j : Int) + 1) = ((j + 1 : Nat) : Int) by omega, h, dec_eq e]
      · rw [if_neg e, dec_ne e]
    · simp only [caucusref02_Same.l0]
      rw [if_neg (by omega), List.drop_of_length_le (by omega), List.drop_of_length_le (by omega)]
      rfl
theorem same_tells (k : Nat) (a b : List Int) (ha : a.length ≤ 1000) (hk : 1000 < k) : caucusref02_Same.f k a b = some (decide (a = b)) := by
  unfold caucusref02_Same.f
  by_cases h : a.length = b.length
  · rw [if_pos (by omega)]
    exact same_loop a.length k a b 0 h (by omega) (by omega) ha (by omega)
  · rw [if_neg (by omega)]
    congr 1
    exact (decide_eq_false (fun e => h (by rw [e]))).symm

theorem equal_loop (d : Nat) : ∀ (k : Nat) (a b : List Int) (j : Nat), a.length = b.length → a.length ≤ j + d → j ≤ a.length → a.length ≤ 1000 → d < k →
    slices_Equal_uint32_uint32.l0 k a b (a.length : Int) (j : Int) = some (decide (a.drop j = b.drop j)) := by
  induction d with
  | zero =>
    intro k a b j hl hd hj _ hk
    obtain ⟨k, rfl⟩ : ∃ m, k = m + 1 := ⟨k - 1, by omega⟩
    simp only [slices_Equal_uint32_uint32.l0]
    rw [if_neg (by omega), List.drop_of_length_le (by omega), List.drop_of_length_le (by omega)]
    rfl
  | succ d ih =>
    intro k a b j hl hd hj hs hk
    obtain ⟨k, rfl⟩ : ∃ m, k = m + 1 := ⟨k - 1, by omega⟩
    by_cases hlt : j < a.length
    · simp only [slices_Equal_uint32_uint32.l0]
      rw [if_pos (by omega), if_pos (by omega), if_pos (by omega), if_pos (by omega), rd_at a j hlt, rd_at b j (by omega), drop_at a j hlt, drop_at b j (by omega)]
      by_cases e : a[j] = b[j]'(by omega)
      · rw [if_pos e, wrap64_in' _ (by omega) (by omega)]
        have h := ih k a b (j + 1) hl (by omega) (by omega) hs (by omega)
        rw [show ((j : Int) + 1) = ((j + 1 : Nat) : Int) by omega, h, dec_eq e]
      · rw [if_neg e, dec_ne e]
    · simp only [slices_Equal_uint32_uint32.l0]
      rw [if_neg (by omega), List.drop_of_length_le (by omega), List.drop_of_length_le (by omega)]
      rfl
theorem vsame_tells (k : Nat) (a b : List Int) (ha : a.length ≤ 1000) (hk : 1000 < k) : vec_Same.f k a b = some (decide (a = b)) := by
  have h : slices_Equal_uint32_uint32.f k a b = some (decide (a = b)) := by
    unfold slices_Equal_uint32_uint32.f
    by_cases h : a.length = b.length
    · rw [if_pos (by omega)]
      exact equal_loop a.length k a b 0 h (by omega) (by omega) ha (by omega)
    · rw [if_neg (by omega)]
      congr 1
      exact (decide_eq_false (fun e => h (by rw [e]))).symm
  unfold vec_Same.f
  rw [h]
  rfl

/-! ### sums, differences, products -/
theorem wrap_u64 (n : Int) : IntKind.u64.wrap n = n % 18446744073709551616 := by simp [IntKind.wrap, IntKind.bits, IntKind.signed]
def rop (m x y : Int) : Int := (x + m * y) % 4294967296
theorem rop_tells (m x y : Int) : Int.tmod (IntKind.u64.wrap ((IntKind.u64.wrap x) + (IntKind.u64.wrap (m * (IntKind.u64.wrap y))))) 4294967296 % 4294967296 = rop m x y := by
  simp only [wrap_u64, rop]
  rw [Int.tmod_eq_emod_of_nonneg (by omega), Int.emod_emod_of_dvd _ (by decide : (4294967296 : Int) ∣ 4294967296)]
  rw [Int.emod_emod_of_dvd _ (by decide : (4294967296 : Int) ∣ 18446744073709551616)]
  rw [Int.add_emod, Int.emod_emod_of_dvd x (by decide : (4294967296 : Int) ∣ 18446744073709551616), Int.emod_emod_of_dvd (m * (y % 18446744073709551616)) (by decide : (4294967296 : Int) ∣ 18446744073709551616)]
  rw [Int.mul_emod m (y % 18446744073709551616), Int.emod_emod_of_dvd y (by decide : (4294967296 : Int) ∣ 18446744073709551616), ← Int.mul_emod, ← Int.add_emod]

theorem radd_loop (d : Nat) : ∀ (k : Nat) (a b : List Int) (m : Int) (j : Nat), a.length = b.length → a.length ≤ 32 → a.length ≤ j + d → j ≤ a.length → d < k →
    caucusref02_Add.l0 k a b m ((List.zipWith (rop m) a b).take j) (j : Int) = some (List.zipWith (rop m) a b, true) := by
  induction d with
  | zero =>
    intro k a b m j hl h32 hd hj hk
    obtain ⟨k, rfl⟩ : ∃ m, k = m + 1 := ⟨k - 1, by omega⟩
    simp only [caucusref02_Add.l0]
    rw [if_neg (by omega), List.take_of_length_le (by rw [List.length_zipWith]; omega)]
  | succ d ih =>
    intro k a b m j hl h32 hd hj hk
    obtain ⟨k, rfl⟩ : ∃ m, k = m + 1 := ⟨k - 1, by omega⟩
    by_cases hlt : j < a.length
    · simp only [caucusref02_Add.l0]
      have hz := Bo.zip_len (rop m) a b j
      rw [if_pos (by omega), if_pos (by omega), if_pos (by omega), if_pos (by omega), rop_tells, Bo.zip_snoc (rop m) a b j hlt (by omega), wrap64_in' _ (by omega) (by omega)]
      exact ih k a b m (j + 1) hl h32 (by omega) (by omega) (by omega)
    · simp only [caucusref02_Add.l0]
      rw [if_neg (by omega), List.take_of_length_le (by rw [List.length_zipWith]; omega)]

theorem radd_ok (k : Nat) (a b : List Int) (m : Int) (h : a.length ≤ 32 ∧ a.length = b.length) (hk : 40 < k) : caucusref02_Add.f k a b m = some (List.zipWith (rop m) a b, true) := by
  obtain ⟨k, rfl⟩ : ∃ m, k = m + 1 := ⟨k - 1, by omega⟩
  unfold caucusref02_Add.f
  rw [if_neg (by omega)]
  simp only [caucusref02_Add.j0]
  rw [if_neg (by simp; omega)]
  exact radd_loop a.length k a b m 0 h.2 h.1 (by omega) (by omega) (by omega)
theorem radd_no (k : Nat) (a b : List Int) (m : Int) (h : ¬ (a.length ≤ 32 ∧ a.length = b.length)) (hk : 40 < k) : caucusref02_Add.f k a b m = some (([] : List Int), false) := by
  obtain ⟨k, rfl⟩ : ∃ m, k = m + 1 := ⟨k - 1, by omega⟩
  unfold caucusref02_Add.f
  by_cases h1 : (a.length : Int) > 32
  · rw [if_pos h1]
    simp only [caucusref02_Add.j0]
    rw [if_pos trivial]
  · rw [if_neg h1]
    simp only [caucusref02_Add.j0]
    rw [if_pos (by simp; omega)]

theorem rop_add (x y : Int) : rop 1 x y = Bo.op_add x y := by
  unfold rop Bo.op_add
  rw [Int.one_mul]
theorem rop_add' : rop 1 = Bo.op_add := by
  funext x y
  exact rop_add x y

/-! ### sums of rows -/
/-- the sum of rows, on top of a row -/
def sumL (o : List Int) : List (List Int) → Option (List Int)
  | [] => some o
  | a :: l => if o.length ≤ 32 ∧ o.length = a.length then sumL (List.zipWith Bo.op_add o a) l else none

def vout : Option (List Int) → List Int × Option Int
  | some r => (r, none)
  | none => ([], some 1)
def rout : Option (List Int) → List Int × Bool
  | some r => (r, true)
  | none => ([], false)

theorem vsum_loop (d : Nat) : ∀ (k : Nat) (o : List Int) (l : List (List Int)) (j : Nat), l.length ≤ j + d → j ≤ l.length → l.length ≤ 1000 → d < k →
    vec_Sum.l0 k o l (l.length : Int) (j : Int) = some (vout (sumL o (l.drop j))) := by
  induction d with
  | zero =>
    intro k o l j hd hj _ hk
    obtain ⟨k, rfl⟩ : ∃ m, k = m + 1 := ⟨k - 1, by omega⟩
    simp only [vec_Sum.l0]
    rw [if_neg (by omega), List.drop_of_length_le (by omega)]
    rfl
  | succ d ih =>
    intro k o l j hd hj hs hk
    obtain ⟨k, rfl⟩ : ∃ m, k = m + 1 := ⟨k - 1, by omega⟩
    by_cases hlt : j < l.length
    · simp only [vec_Sum.l0]
      rw [if_pos (by omega), if_pos (by omega), if_pos (by omega), rdL_at l j hlt, drop_at l j hlt]
      simp only [sumL]
      unfold vec_Add.f
      by_cases h : o.length ≤ 32 ∧ o.length = (l[j]).length
      · rw [if_pos h, if_pos h]
        simp only [obind]
        rw [if_pos (show (none : Option Int).isNone = true from rfl), wrap64_in' _ (by omega) (by omega)]
        exact ih k _ l (j + 1) (by omega) (by omega) hs (by omega)
      · rw [if_neg h, if_neg h]
        simp only [obind]
        rw [if_neg (by simp)]
        rfl
    · simp only [vec_Sum.l0]
      rw [if_neg (by omega), List.drop_of_length_le (by omega)]
      rfl

theorem rsum_loop (d : Nat) : ∀ (k : Nat) (o : List Int) (l : List (List Int)) (j : Nat), l.length ≤ j + d → j ≤ l.length → l.length ≤ 1000 → d + 50 < k →
    caucusref02_Sum.l0 k l o (j : Int) = some (rout (sumL o (l.drop j))) := by
  induction d with
  | zero =>
    intro k o l j hd hj _ hk
    obtain ⟨k, rfl⟩ : ∃ m, k = m + 1 := ⟨k - 1, by omega⟩
    simp only [caucusref02_Sum.l0]
    rw [if_neg (by omega), List.drop_of_length_le (by omega)]
    rfl
  | succ d ih =>
    intro k o l j hd hj hs hk
    obtain ⟨k, rfl⟩ : ∃ m, k = m + 1 := ⟨k - 1, by omega⟩
    by_cases hlt : j < l.length
    · simp only [caucusref02_Sum.l0]
      rw [if_pos (by omega), if_pos (by omega), rdL_at l j hlt, drop_at l j hlt]
      simp only [sumL]
      by_cases h : o.length ≤ 32 ∧ o.length = (l[j]).length
      · rw [radd_ok k _ _ _ h (by omega), if_pos h]
        simp only [obind]
        rw [if_pos trivial, wrap64_in' _ (by omega) (by omega), rop_add']
        exact ih k _ l (j + 1) (by omega) (by omega) hs (by omega)
      · rw [radd_no k _ _ _ h (by omega), if_neg h]
        simp only [obind]
        rw [if_neg (by decide)]
        rfl
    · simp only [caucusref02_Sum.l0]
      rw [if_neg (by omega), List.drop_of_length_le (by omega)]
      rfl

/-- the sum of rows of n numbers, or the error -/
def sumN (l : List (List Int)) (n : Int) : Option (List Int) := if 0 ≤ n ∧ n ≤ 32 then sumL (List.replicate n.toNat 0) l else none

theorem zero_tells (n : Int) : vec_Zero.f n = some (if 0 ≤ n ∧ n ≤ 32 then (List.replicate n.toNat 0, none) else (([] : List Int), some 1)) := by
  unfold vec_Zero.f
  by_cases h1 : n < 0
  · rw [if_pos h1, if_neg (by omega)]
  · rw [if_neg h1]
    by_cases h2 : n > 32
    · rw [if_pos h2, if_neg (by omega)]
    · rw [if_neg h2, if_pos (by omega), if_pos (by omega), if_pos (by omega)]

theorem vsum_tells (k : Nat) (l : List (List Int)) (n : Int) (hl : l.length ≤ 1000) (hk : 1000 < k) : vec_Sum.f k l n = some (vout (sumN l n)) := by
  unfold vec_Sum.f sumN
  rw [zero_tells]
  simp only [obind]
  by_cases h : 0 ≤ n ∧ n ≤ 32
  · rw [if_pos h, if_pos h, if_pos (show (none : Option Int).isNone = true from rfl)]
    exact vsum_loop l.length k _ l 0 (by omega) (by omega) hl (by omega)
  · rw [if_neg h, if_neg h, if_neg (by simp)]
    rfl
theorem rsum_tells (k : Nat) (l : List (List Int)) (n : Int) (hl : l.length ≤ 1000) (hk : 1100 < k) : caucusref02_Sum.f k l n = some (rout (sumN l n)) := by
  obtain ⟨k, rfl⟩ : ∃ m, k = m + 1 := ⟨k - 1, by omega⟩
  unfold caucusref02_Sum.f sumN
  by_cases h1 : n < 0
  · rw [if_pos h1, if_neg (by omega)]
    simp only [caucusref02_Sum.j0]
    rw [if_pos trivial]
    rfl
  · rw [if_neg h1]
    by_cases h2 : n > 32
    · rw [decide_eq_true h2, if_neg (by omega)]
      simp only [caucusref02_Sum.j0]
      rw [if_pos trivial]
      rfl
    · rw [decide_eq_false h2, if_pos (by omega)]
      simp only [caucusref02_Sum.j0]
      rw [if_neg (by decide), if_pos (by omega), if_pos (by omega)]
      exact rsum_loop l.length k _ l 0 (by omega) (by omega) hl (by omega)

/-! ### is it a set? -/
/-- numbers from 0 to 63, each greater than the one ahead of it -/
def inc (last : Int) : List Int → Bool
  | [] => true
  | a :: l => decide (last < a) && decide (a < 64) && inc a l

theorem check_loop (d : Nat) : ∀ (k : Nat) (l : List Int) (last : Int) (j : Nat), l.length ≤ j + d → j ≤ l.length → l.length ≤ 1000 → d < k →
    set_Check.l0 k last l (l.length : Int) (j : Int) = some (if inc last (l.drop j) = true then none else some 1) := by
  induction d with
  | zero =>
    intro k l last j hd hj _ hk
    obtain ⟨k, rfl⟩ : ∃ m, k = m + 1 := ⟨k - 1, by omega⟩
    simp only [set_Check.l0]
    rw [if_neg (by omega), List.drop_of_length_le (by omega)]
    rfl
  | succ d ih =>
    intro k l last j hd hj hs hk
    obtain ⟨k, rfl⟩ : ∃ m, k = m + 1 := ⟨k - 1, by omega⟩
    by_cases hlt : j < l.length
    · simp only [set_Check.l0]
      rw [if_pos (by omega), if_pos (by omega), if_pos (by omega), rd_at l j hlt, drop_at l j hlt]
      by_cases h1 : l[j] ≤ last
      · rw [if_pos h1]
        have e : decide (last < l[j]) = false := decide_eq_false (by omega)
        simp [inc, e]
      · rw [if_neg h1]
        have e : decide (last < l[j]) = true := decide_eq_true (by omega)
        by_cases h2 : l[j] ≥ 64
        · rw [if_pos h2]
          have e2 : decide (l[j] < 64) = false := decide_eq_false (by omega)
          simp [inc, e2]
        · rw [if_neg h2, wrap64_in' _ (by omega) (by omega)]
          have e2 : decide (l[j] < 64) = true := decide_eq_true (by omega)
          have h := ih k l l[j] (j + 1) (by omega) (by omega) hs (by omega)
          rw [show ((j : Int) + 1) = ((j + 1 : Nat) : Int) by omega, h]
          simp only [inc, e, e2, Bool.true_and]
    · simp only [set_Check.l0]
      rw [if_neg (by omega), List.drop_of_length_le (by omega)]
      rfl
theorem check_tells (k : Nat) (l : List Int) (hl : l.length ≤ 1000) (hk : 1000 < k) : set_Check.f k l = some (if inc (-1) l = true then none else some 1) :=
  check_loop l.length k l (-1) 0 (by omega) (by omega) hl (by omega)

theorem inc_ge (l : List Int) : ∀ (last x : Int), inc last l = true → x ∈ l → last < x ∧ x < 64 := by
  induction l with
  | nil => intro last x _ h; cases h
  | cons a l ih =>
    intro last x h hx
    simp only [inc, Bool.and_eq_true, decide_eq_true_eq] at h
    rcases List.mem_cons.1 hx with rfl | hx
    · exact ⟨h.1.1, h.1.2⟩
    · have := ih a x h.2 hx
      omega
theorem inc_len (l : List Int) : ∀ (last : Int), -1 ≤ last → last < 64 → inc last l = true → (l.length : Int) ≤ 63 - last := by
  induction l with
  | nil => intro last _ _ _; simp; omega
  | cons a l ih =>
    intro last h0 h1 h
    simp only [inc, Bool.and_eq_true, decide_eq_true_eq] at h
    have := ih a (by omega) h.1.2 h.2
    simp only [List.length_cons]
    omega

/-! ### bits -/
theorem u64_fits : ∀ n : Int, 0 ≤ n → n < 2 ^ 64 → IntKind.u64.wrap n = n := fun n h0 h1 => by rw [wrap_u64]; omega
theorem u64_and (a b : Nat) (ha : a < 2 ^ 64) (hb : b < 2 ^ 64) : Go.bits .and .u64 (a : Int) (b : Int) = ((a &&& b : Nat) : Int) := (bits_nat .u64 64 (by decide) u64_fits a b ha hb).1
theorem u64_or (a b : Nat) (ha : a < 2 ^ 64) (hb : b < 2 ^ 64) : Go.bits .or .u64 (a : Int) (b : Int) = ((a ||| b : Nat) : Int) := (bits_nat .u64 64 (by decide) u64_fits a b ha hb).2
theorem bit_is (a : Nat) (ha : a < 2 ^ 64) (n : Nat) (hn : n < 64) : Go.bits .and .u64 (shr .u64 (a : Int) (IntKind.u64.wrap (n : Int))) 1 = if a.testBit n = true then 1 else 0 := by
  have e1 : IntKind.u64.wrap (n : Int) = (n : Int) := by rw [wrap_u64]; omega
  have e2 : shr .u64 (a : Int) (n : Int) = ((a / 2 ^ n : Nat) : Int) := by
    unfold shr
    rw [Int.toNat_natCast, Nat.min_eq_left (by show n ≤ 64; omega)]
    simp
  have h3 : a / 2 ^ n < 2 ^ 64 := Nat.lt_of_le_of_lt (Nat.div_le_self _ _) ha
  have h4 := u64_and (a / 2 ^ n) 1 h3 (by decide)
  rw [e1, e2]
  refine h4.trans ?_
  rw [Nat.and_one_is_mod, Nat.testBit_eq_decide_div_mod_eq]
  by_cases h : a / 2 ^ n % 2 = 1
  · simp [h]
  · have : a / 2 ^ n % 2 = 0 := by omega
    simp [this]

theorem bits_loop (d : Nat) : ∀ (k : Nat) (l : List Int) (v : Nat) (j : Nat), l.length ≤ j + d → j ≤ l.length → l.length ≤ 1000 → d < k → v < 2 ^ 64 → (∀ n, n < 64 → v.testBit n = decide ((n : Int) ∈ l.take j)) →
    ∃ u : Nat, set_Bits.l0 k (v : Int) l (l.length : Int) (j : Int) = some (u : Int) ∧ u < 2 ^ 64 ∧ ∀ n, n < 64 → u.testBit n = decide ((n : Int) ∈ l) := by
  induction d with
  | zero =>
    intro k l v j hd hj _ hk hv hb
    obtain ⟨k, rfl⟩ : ∃ m, k = m + 1 := ⟨k - 1, by omega⟩
    refine ⟨v, ?_, hv, fun n hn => ?_⟩
    · simp only [set_Bits.l0]
      rw [if_neg (by omega)]
    · rw [hb n hn, List.take_of_length_le (by omega)]
  | succ d ih =>
    intro k l v j hd hj hs hk hv hb
    obtain ⟨k, rfl⟩ : ∃ m, k = m + 1 := ⟨k - 1, by omega⟩
    by_cases hlt : j < l.length
    · have htk : l.take (j + 1) = l.take j ++ [l[j]] := by rw [List.take_add_one, List.getElem?_eq_getElem hlt]; rfl
      have hsame : (∀ n, n < 64 → l[j] ≠ (n : Nat)) → ∀ n, n < 64 → v.testBit n = decide ((n : Int) ∈ l.take (j + 1)) := by
        intro hne n hn
        rw [hb n hn, htk]
        have := hne n hn
        simp only [List.mem_append, List.mem_singleton, decide_eq_decide]
        constructor
        · exact Or.inl
        · rintro (h | h)
          · exact h
          · exact absurd h.symm this
      simp only [set_Bits.l0]
      rw [if_pos (by omega), if_pos (by omega), if_pos (by omega), rd_at l j hlt]
      rw [wrap64_in' _ (by omega) (by omega), show ((j : Int) + 1) = ((j + 1 : Nat) : Int) by omega]
      by_cases h1 : l[j] ≥ 0
      · rw [if_pos h1]
        by_cases h2 : l[j] < 64
        · rw [if_pos h2, if_pos (by rw [wrap_u64]; omega)]
          obtain ⟨m, hm⟩ := Int.eq_ofNat_of_zero_le h1
          have hm64 : m < 64 := by omega
          have e1 : IntKind.u64.wrap (l[j]) = ((m : Nat) : Int) := by rw [hm, wrap_u64]; omega
          have e2 : shl .u64 1 ((m : Nat) : Int) = ((2 ^ m : Nat) : Int) := by
            unfold shl
            rw [Int.toNat_natCast, Nat.min_eq_left (by show m ≤ 64; omega), Int.one_mul]
            have hp : 2 ^ m < 2 ^ 64 := Nat.pow_lt_pow_right (by decide) hm64
            rw [show ((2 : Int) ^ m) = ((2 ^ m : Nat) : Int) by simp]
            exact u64_fits _ (Int.natCast_nonneg _) (by exact_mod_cast hp)
          have hp : 2 ^ m < 2 ^ 64 := Nat.pow_lt_pow_right (by decide) hm64
          rw [e1, e2, u64_or v (2 ^ m) hv hp]
          refine ih k l (v ||| 2 ^ m) (j + 1) (by omega) (by omega) hs (by omega) (Nat.or_lt_two_pow hv hp) (fun n hn => ?_)
          rw [Nat.testBit_or, Nat.testBit_two_pow, hb n hn, htk]
          by_cases e : m = n
          · subst e
            simp [hm]
          · have h9 : ¬ (n : Int) = l[j] := by omega
            have e3 : decide (m = n) = false := decide_eq_false e
            rw [e3, Bool.or_false]
            simp only [List.mem_append, List.mem_singleton, decide_eq_decide]
            constructor
            · exact Or.inl
            · rintro (h | h)
              · exact h
              · exact absurd h h9
        · rw [if_neg h2]
          exact ih k l v (j + 1) (by omega) (by omega) hs (by omega) hv (hsame (fun n hn => by omega))
      · rw [if_neg h1]
        exact ih k l v (j + 1) (by omega) (by omega) hs (by omega) hv (hsame (fun n hn => by omega))
    · refine ⟨v, ?_, hv, fun n hn => ?_⟩
      · simp only [set_Bits.l0]
        rw [if_neg (by omega)]
      · rw [hb n hn, List.take_of_length_le (by omega)]
theorem bits_tells (k : Nat) (l : List Int) (hl : l.length ≤ 1000) (hk : 1000 < k) :
    ∃ u : Nat, set_Bits.f k l = some (u : Int) ∧ u < 2 ^ 64 ∧ ∀ n, n < 64 → u.testBit n = decide ((n : Int) ∈ l) :=
  bits_loop l.length k l 0 0 (by omega) (by omega) hl (by omega) (by decide) (fun n _ => by simp)

theorem has_tells (k : Nat) (l : List Int) (n : Int) (hl : l.length ≤ 1000) (hk : 1000 < k) : set_Has.f k l n = some (decide (0 ≤ n ∧ n < 64 ∧ n ∈ l)) := by
  unfold set_Has.f
  by_cases h1 : n ≥ 0
  · rw [if_pos h1]
    by_cases h2 : n < 64
    · rw [if_pos h2]
      obtain ⟨u, hu, hlt, hb⟩ := bits_tells k l hl hk
      obtain ⟨m, rfl⟩ := Int.eq_ofNat_of_zero_le h1
      rw [hu]
      simp only [obind]
      rw [if_pos (by rw [wrap_u64]; omega), bit_is u hlt m (by omega), hb m (by omega)]
      by_cases h : (m : Int) ∈ l
      · simp [h]; omega
      · simp [h]
    · rw [if_neg h2]
      congr 1
      exact (decide_eq_false (fun h => h2 h.2.1)).symm
  · rw [if_neg h1]
    congr 1
    exact (decide_eq_false (fun h => h1 h.1)).symm
end Go.Proofs.YtihcolmkfmdbaaaDoor.PId
