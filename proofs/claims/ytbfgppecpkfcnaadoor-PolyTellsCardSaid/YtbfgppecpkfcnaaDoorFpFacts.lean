/-
  What the printed functions of fp and of its reference answer, as numbers modulo 2^61 - 1.
-/
import Derived.Test.YtbfgppecpkfcnaaDoorPFpx3
import Derived.Test.YtbfgppecpkfcnaaDoorField
namespace Go.Proofs.YtbfgppecpkfcnaaDoor.PFp
open Go.RowKit Go.Proofs.YtbfgppecpkfcnaaDoorW.PrintWords Go.Proofs.YtbfgppecpkfcnaaDoorW.PrintLast Go.Proofs.YtbfgppecpkfcnaaDoorW.PrintMore Go.Proofs.YtbfgppecpkfcnaaDoor.Fq

theorem wrap_u64 (n : Int) : IntKind.u64.wrap n = n % 18446744073709551616 := by simp [IntKind.wrap, IntKind.bits, IntKind.signed]
theorem wrap_u64_in (n : Int) (h : 0 ≤ n) (h1 : n < 18446744073709551616) : IntKind.u64.wrap n = n := by rw [wrap_u64]; omega
theorem wu (n : Nat) (h : n < 18446744073709551616) : IntKind.u64.wrap (n : Int) = n := by rw [wrap_u64]; omega

/-- (no proof by rfl: the kernel is not to hold one call against the next) -/
theorem obind {α β : Type} (a : α) (f : α → Option β) : (some a).bind f = f a := (Option.bind_some a f).trans (Eq.refl (f a))

theorem mask (i : Nat) (hi : i ≤ 64) (m : Int) (hm : (2 : Int) ^ i - 1 = m) (n : Nat) (h : n < 18446744073709551616) : Go.bits .and .u64 (n : Int) m = ((n % 2 ^ i : Nat) : Int) := by
  have hw : ∀ n : Int, 0 ≤ n → n < 2 ^ 64 → IntKind.u64.wrap n = n := by
    intro n h0 h1
    rw [wrap_u64]
    have : (2 : Int) ^ 64 = 18446744073709551616 := by decide
    omega
  have e := bits_mask .u64 64 (by decide) hw i hi (n : Int) (by omega) (by
    have : (2 : Int) ^ 64 = 18446744073709551616 := by decide
    omega)
  rw [hm] at e
  rw [e]
  exact (by simp : ((n : Int) % 2 ^ i) = ((n % 2 ^ i : Nat) : Int))
theorem mask61 (n : Nat) (h : n < 18446744073709551616) : Go.bits .and .u64 (n : Int) 2305843009213693951 = ((n % 2305843009213693952 : Nat) : Int) :=
  mask 61 (by decide) _ (by decide) n h
theorem mask29 (n : Nat) (h : n < 18446744073709551616) : Go.bits .and .u64 (n : Int) 536870911 = ((n % 536870912 : Nat) : Int) :=
  mask 29 (by decide) _ (by decide) n h
theorem mask32 (n : Nat) (h : n < 18446744073709551616) : Go.bits .and .u64 (n : Int) 4294967295 = ((n % 4294967296 : Nat) : Int) :=
  mask 32 (by decide) _ (by decide) n h
theorem mask1 (n : Nat) (h : n < 18446744073709551616) : Go.bits .and .u64 (n : Int) 1 = ((n % 2 : Nat) : Int) :=
  mask 1 (by decide) _ (by decide) n h

theorem mod_lt (n : Nat) : n % PP < 2305843009213693951 := Nat.mod_lt _ PP_pos

theorem of_tells (n : Nat) (h : n < 18446744073709551616) : fp_Of.f (n : Int) = some ((n % PP : Nat) : Int) := by
  unfold fp_Of.f
  rw [mask61 n h]
  have e : IntKind.u64.wrap ((n : Int) / 2305843009213693952 + ((n % 2305843009213693952 : Nat) : Int)) = ((n / 2305843009213693952 + n % 2305843009213693952 : Nat) : Int) := by
    rw [wrap_u64]; omega
  rw [e]
  have hp : PP = 2305843009213693951 := rfl
  split
  · rw [wrap_u64]
    congr 1
    rw [hp]
    omega
  · congr 1
    rw [hp]
    omega

theorem add_tells (n m : Nat) (hn : n < 18446744073709551616) (hm : m < 18446744073709551616) : fp_Add.f (n : Int) (m : Int) = some (((n + m) % PP : Nat) : Int) := by
  unfold fp_Add.f
  rw [of_tells n hn, of_tells m hm]
  simp only [obind]
  have h1 := mod_lt n
  have h2 := mod_lt m
  rw [show ((n % PP : Nat) : Int) + ((m % PP : Nat) : Int) = ((n % PP + m % PP : Nat) : Int) by simp, wu _ (by omega), of_tells _ (by omega)]
  simp only [obind]
  rw [Nat.mod_add_mod, Nat.add_mod_mod]

theorem sub_tells (n m : Nat) (hn : n < 18446744073709551616) (hm : m < 18446744073709551616) : fp_Sub.f (n : Int) (m : Int) = some (((n + (PP - m % PP)) % PP : Nat) : Int) := by
  unfold fp_Sub.f
  rw [of_tells n hn, of_tells m hm]
  simp only [obind]
  have h1 := mod_lt n
  have h2 := mod_lt m
  have hp : PP = 2305843009213693951 := rfl
  have e1 : IntKind.u64.wrap (((n % PP : Nat) : Int) + 2305843009213693951) = ((n % PP + 2305843009213693951 : Nat) : Int) := by
    rw [wrap_u64]; omega
  have e2 : IntKind.u64.wrap (((n % PP + 2305843009213693951 : Nat) : Int) - ((m % PP : Nat) : Int)) = ((n % PP + (PP - m % PP) : Nat) : Int) := by
    rw [wrap_u64]; omega
  rw [e1, e2, of_tells _ (by omega)]
  simp only [obind]
  rw [Nat.mod_add_mod]

theorem shifted_tells (n : Nat) (hn : n < 2305843009213693951) : fp_shifted.f (n : Int) = some ((n * 4294967296 % PP : Nat) : Int) := by
  unfold fp_shifted.f
  rw [mask29 n (by omega)]
  have e1 : IntKind.u64.wrap (((n % 536870912 : Nat) : Int) * 4294967296) = ((n % 536870912 * 4294967296 : Nat) : Int) := by
    rw [wrap_u64]; omega
  have e2 : IntKind.u64.wrap ((n : Int) / 536870912 + ((n % 536870912 * 4294967296 : Nat) : Int)) = ((n / 536870912 + n % 536870912 * 4294967296 : Nat) : Int) := by
    rw [wrap_u64]; omega
  rw [e1, e2, of_tells _ (by omega)]
  simp only [obind]
  have hp : PP = 2305843009213693951 := rfl
  have e : n * 4294967296 = (n / 536870912 + n % 536870912 * 4294967296) + 2305843009213693951 * (n / 536870912) := by omega
  rw [e, hp, Nat.add_mul_mod_self_left]

theorem mul_bd {a b x y : Nat} (h1 : a < x) (h2 : b < y) : a * b < x * y := Nat.mul_lt_mul'' h1 h2

theorem mul_parts (a b : Nat) :
    a * b = (a / 4294967296 * (b / 4294967296)) * 18446744073709551616 + (a / 4294967296 * (b % 4294967296) + a % 4294967296 * (b / 4294967296)) * 4294967296 + a % 4294967296 * (b % 4294967296) := by
  generalize hx : a / 4294967296 = x
  generalize hy : a % 4294967296 = y
  generalize hz : b / 4294967296 = z
  generalize hw : b % 4294967296 = v
  have ea : a = x * 4294967296 + y := by omega
  have eb : b = z * 4294967296 + v := by omega
  rw [ea, eb]
  grind

theorem c_two64 : c 18446744073709551616 = c 8 := by
  rw [c_iff]; decide +kernel

theorem mul_c0 (x y z v : Nat) :
    (x * z * 8 % PP + (x * v % PP + y * z % PP) % PP * 4294967296 % PP + y * v % PP) % PP = (x * z * 18446744073709551616 + (x * v + y * z) * 4294967296 + y * v) % PP := by
  rw [← c_iff]
  simp only [c_add, c_mul, c_mod]
  rw [c_two64]

theorem k_pow_two (x : K) (q : Nat) : x ^ (2 * q) = (x * x) ^ q := by
  induction q with
  | zero => rfl
  | succ q ih =>
    have e : 2 * (q + 1) = 2 * q + 1 + 1 := by omega
    have e1 : x ^ (2 * q + 1 + 1) = x ^ (2 * q) * x * x := by grind
    have e2 : (x * x) ^ (q + 1) = (x * x) ^ q * (x * x) := by grind
    rw [e, e1, e2, ih]
    generalize (x * x) ^ q = y
    grind

theorem k_pow_odd (o x : K) (q : Nat) : o * x * (x * x) ^ q = o * x ^ (2 * q + 1) := by
  have e1 : x ^ (2 * q + 1) = x ^ (2 * q) * x := by grind
  rw [e1, k_pow_two]
  generalize (x * x) ^ q = y
  grind

theorem k_pow_sq (x : K) (q : Nat) : x ^ q * x ^ q = x ^ (2 * q) := by
  rw [k_pow_two]
  induction q with
  | zero => rfl
  | succ q ih =>
    have e1 : x ^ (q + 1) = x ^ q * x := by grind
    have e2 : (x * x) ^ (q + 1) = (x * x) ^ q * (x * x) := by grind
    rw [e1, e2, ← ih]
    generalize x ^ q = y
    grind

theorem k_pow_sq1 (x : K) (q : Nat) : x ^ q * x ^ q * x = x ^ (2 * q + 1) := by
  have e1 : x ^ (2 * q + 1) = x ^ (2 * q) * x := by grind
  rw [e1, k_pow_sq]

theorem mul_tells (n m : Nat) (hn : n < 18446744073709551616) (hm : m < 18446744073709551616) : fp_Mul.f (n : Int) (m : Int) = some ((n * m % PP : Nat) : Int) := by
  unfold fp_Mul.f
  rw [of_tells n hn, of_tells m hm]
  simp only [obind]
  have h1 := mod_lt n
  have h2 := mod_lt m
  rw [show n * m % PP = (n % PP) * (m % PP) % PP from Nat.mul_mod _ _ _]
  generalize n % PP = a at *
  generalize m % PP = b at *
  rw [mask32 a (by omega), mask32 b (by omega)]
  have e1 : ((a : Int) / 4294967296) = ((a / 4294967296 : Nat) : Int) := by omega
  have e2 : ((b : Int) / 4294967296) = ((b / 4294967296 : Nat) : Int) := by omega
  rw [e1, e2]
  have ha1 : a / 4294967296 < 536870912 := by omega
  have hb1 : b / 4294967296 < 536870912 := by omega
  have ha0 : a % 4294967296 < 4294967296 := by omega
  have hb0 : b % 4294967296 < 4294967296 := by omega
  have hp := mul_parts a b
  rw [hp]
  clear hp
  generalize a / 4294967296 = x at *
  generalize a % 4294967296 = y at *
  generalize b / 4294967296 = z at *
  generalize b % 4294967296 = v at *
  have k1 := mul_bd ha1 hb1
  have k2 := mul_bd ha1 hb0
  have k3 := mul_bd ha0 hb1
  have k4 := mul_bd ha0 hb0
  rw [← Int.natCast_mul x z, ← Int.natCast_mul x v, ← Int.natCast_mul y z, ← Int.natCast_mul y v]
  rw [wu (x * z) (by omega), wu (x * v) (by omega), wu (y * z) (by omega), wu (y * v) (by omega)]
  rw [show (((x * z : Nat) : Int) * 8) = ((x * z * 8 : Nat) : Int) by simp, wu _ (by omega)]
  rw [of_tells _ (by omega)]
  simp only [obind]
  rw [of_tells _ (by omega)]
  simp only [obind]
  rw [of_tells _ (by omega)]
  simp only [obind]
  have j1 := mod_lt (x * v)
  have j2 := mod_lt (y * z)
  rw [← Int.natCast_add, wu _ (by omega), of_tells _ (by omega)]
  simp only [obind]
  rw [shifted_tells _ (mod_lt _)]
  simp only [obind]
  have j3 := mod_lt (x * z * 8)
  have j4 := mod_lt ((x * v % PP + y * z % PP) % PP * 4294967296)
  rw [add_tells _ _ (by omega) (by omega)]
  simp only [obind]
  rw [of_tells _ (by omega)]
  simp only [obind]
  have j5 := mod_lt (x * z * 8 % PP + (x * v % PP + y * z % PP) % PP * 4294967296 % PP)
  have j6 := mod_lt (y * v)
  rw [add_tells _ _ (by omega) (by omega)]
  simp only [obind]
  rw [← mul_c0, Nat.mod_add_mod]

theorem k_pow_zero (x : K) : x ^ 0 = 1 := rfl
theorem k_pow_succ (x : K) (n : Nat) : x ^ (n + 1) = x ^ n * x := by grind
theorem k_pow_add (x : K) (m n : Nat) : x ^ m * x ^ n = x ^ (m + n) := by
  induction n with
  | zero => rw [k_pow_zero, Nat.add_zero]; grind
  | succ n ih =>
    rw [k_pow_succ, ← Nat.add_assoc, k_pow_succ, ← ih]
    generalize x ^ m = y
    generalize x ^ n = z
    grind
theorem k_pow_mul (x : K) (m n : Nat) : (x ^ m) ^ n = x ^ (m * n) := by
  induction n with
  | zero => rw [k_pow_zero, Nat.mul_zero, k_pow_zero]
  | succ n ih => rw [k_pow_succ, ih, k_pow_add, Nat.mul_succ]

theorem pow_one_step (o a e : Nat) (h : e = 2 * (e / 2) + 1) : o * a % PP * (a * a % PP) ^ (e / 2) % PP = o * a ^ e % PP := by
  rw [← c_iff]
  simp only [c_mul, c_mod, c_pow]
  rw [k_pow_odd, ← h]
theorem pow_no_step (o a e : Nat) (h : e = 2 * (e / 2)) : o * (a * a % PP) ^ (e / 2) % PP = o * a ^ e % PP := by
  rw [← c_iff]
  simp only [c_mul, c_mod, c_pow]
  rw [← k_pow_two, ← h]

/-- powers: the loop -/
theorem pow_loop (d : Nat) : ∀ (k a e o : Nat), a < 2305843009213693951 → o < 2305843009213693951 → e < 2 ^ d → d ≤ 64 → d < k →
    fp_Pow.l0 k (a : Int) (e : Int) (o : Int) = some ((o * a ^ e % PP : Nat) : Int) := by
  induction d with
  | zero =>
    intro k a e o ha ho he _ hk
    obtain ⟨k, rfl⟩ : ∃ m, k = m + 1 := ⟨k - 1, by omega⟩
    have e0 : e = 0 := by simpa using he
    subst e0
    simp only [fp_Pow.l0]
    rw [if_neg (by omega), Nat.pow_zero, Nat.mul_one, Nat.mod_eq_of_lt (by exact ho)]
  | succ d ih =>
    intro k a e o ha ho he hd hk
    obtain ⟨k, rfl⟩ : ∃ m, k = m + 1 := ⟨k - 1, by omega⟩
    have hbig : 2 ^ (d + 1) ≤ 2 ^ 64 := Nat.pow_le_pow_right (by decide) hd
    have h64 : (2 : Nat) ^ 64 = 18446744073709551616 := by decide
    have hs : 2 ^ (d + 1) = 2 ^ d * 2 := Nat.pow_succ ..
    have hpp : PP = 2305843009213693951 := rfl
    have m1 := mod_lt (a * a)
    have m2 := mod_lt (o * a)
    have eh : ((e : Int) / 2) = ((e / 2 : Nat) : Int) := by omega
    simp only [fp_Pow.l0]
    by_cases h0 : e = 0
    · subst h0
      rw [if_neg (by omega), Nat.pow_zero, Nat.mul_one, Nat.mod_eq_of_lt (by exact ho)]
    · rw [if_pos (by omega), mask1 e (by omega), mul_tells o a (by omega) (by omega), mul_tells a a (by omega) (by omega)]
      simp only [obind]
      rw [eh]
      by_cases hb : e % 2 = 1
      · rw [if_pos (by omega), ih k _ _ _ (by omega) (by omega) (by omega) (by omega) (by omega)]
        have h2 : e = 2 * (e / 2) + 1 := by omega
        rw [pow_one_step o a e h2]
      · rw [if_neg (by omega), ih k _ _ _ (by omega) (by omega) (by omega) (by omega) (by omega)]
        have h2 : e = 2 * (e / 2) := by omega
        rw [pow_no_step o a e h2]

theorem pow_tells (k n e : Nat) (hn : n < 18446744073709551616) (he : e < 18446744073709551616) (hk : 64 < k) : fp_Pow.f k (n : Int) (e : Int) = some ((n ^ e % PP : Nat) : Int) := by
  unfold fp_Pow.f
  rw [of_tells n hn]
  simp only [obind]
  have h := pow_loop 64 k (n % PP) e 1 (mod_lt n) (by decide) (by have h64 : (2 : Nat) ^ 64 = 18446744073709551616 := by decide
                                                                  omega) (Nat.le_refl _) hk
  rw [Nat.one_mul, ← Nat.pow_mod] at h
  exact h

theorem inv_zero (k n : Nat) (hn : n < 18446744073709551616) (h0 : n % PP = 0) : fp_Inv.f k (n : Int) = some (0, some 1) := by
  unfold fp_Inv.f
  rw [of_tells n hn, h0]
  simp

theorem kinv_val (n : Nat) : (kinv (c n)).val = n ^ (PP - 2) % PP := by
  unfold kinv
  rw [c_val, c_val, ← Nat.pow_mod]

theorem inv_tells (k n : Nat) (hn : n < 18446744073709551616) (h0 : n % PP ≠ 0) (hk : 64 < k) : fp_Inv.f k (n : Int) = some (((kinv (c n)).val : Int), none) := by
  unfold fp_Inv.f
  rw [of_tells n hn]
  simp only [obind]
  rw [if_neg (by omega)]
  have h := pow_tells k n (PP - 2) hn (by decide) hk
  rw [show (2305843009213693949 : Int) = ((PP - 2 : Nat) : Int) from rfl, h]
  simp only [obind]
  rw [kinv_val]

theorem div_zero (k n m : Nat) (hm : m < 18446744073709551616) (h0 : m % PP = 0) : fp_Div.f k (n : Int) (m : Int) = some (0, some 1) := by
  unfold fp_Div.f
  rw [inv_zero k m hm h0]
  simp

theorem kval_lt (x : K) : x.val < 2305843009213693951 := x.isLt

theorem div_tells (k n m : Nat) (hn : n < 18446744073709551616) (hm : m < 18446744073709551616) (h0 : m % PP ≠ 0) (hk : 64 < k) : fp_Div.f k (n : Int) (m : Int) = some (((c n * kinv (c m)).val : Int), none) := by
  unfold fp_Div.f
  rw [inv_tells k m hm h0 hk]
  simp only [obind, Option.isNone_none, if_true]
  rw [mul_tells n _ hn (by have := kval_lt (kinv (c m)); omega)]
  simp only [obind]
  congr 3
  rw [Fin.val_mul, c_val, Nat.mod_mul_mod]

/-! ### the same, by the field -/
theorem of_c (n : Nat) (h : n < 18446744073709551616) : fp_Of.f (n : Int) = some ((c n).val : Int) := of_tells n h
theorem add_c (n m : Nat) (hn : n < 18446744073709551616) (hm : m < 18446744073709551616) : fp_Add.f (n : Int) (m : Int) = some ((c n + c m).val : Int) := by
  rw [add_tells n m hn hm, ← c_add]; rfl
theorem mul_c (n m : Nat) (hn : n < 18446744073709551616) (hm : m < 18446744073709551616) : fp_Mul.f (n : Int) (m : Int) = some ((c n * c m).val : Int) := by
  rw [mul_tells n m hn hm, ← c_mul]; rfl
theorem c_sub_mod (n m : Nat) : c (n + (PP - m % PP)) = c n - c m := by
  have h2 : m % PP < PP := Nat.mod_lt _ PP_pos
  rw [c_add, c_sub (by omega), c_mod, c_self]
  grind
theorem sub_c (n m : Nat) (hn : n < 18446744073709551616) (hm : m < 18446744073709551616) : fp_Sub.f (n : Int) (m : Int) = some ((c n - c m).val : Int) := by
  rw [sub_tells n m hn hm, ← c_sub_mod]; rfl
theorem pow_c (k n e : Nat) (hn : n < 18446744073709551616) (he : e < 18446744073709551616) (hk : 64 < k) : fp_Pow.f k (n : Int) (e : Int) = some ((c n ^ e).val : Int) := by
  rw [pow_tells k n e hn he hk, ← c_pow]; rfl

/-! ### the reference -/
theorem tmod_nat (n m : Nat) : Int.tmod (n : Int) (m : Int) = ((n % m : Nat) : Int) := rfl
theorem tmod_P (n : Nat) : Int.tmod (n : Int) 2305843009213693951 = ((n % PP : Nat) : Int) := rfl
theorem tdiv_nat (n m : Nat) : Int.tdiv (n : Int) (m : Int) = ((n / m : Nat) : Int) := rfl

theorem radd_c (n m : Nat) : caucusref01_Add.f (n : Int) (m : Int) = some ((c n + c m).val : Int) := by
  unfold caucusref01_Add.f
  rw [tmod_P, tmod_P]
  have h1 := mod_lt n
  have h2 := mod_lt m
  rw [← Int.natCast_add, wu _ (by omega), tmod_P, ← c_add]
  rw [Nat.mod_add_mod, Nat.add_mod_mod]
  rfl

theorem rsub_c (n m : Nat) : caucusref01_Sub.f (n : Int) (m : Int) = some ((c n - c m).val : Int) := by
  unfold caucusref01_Sub.f
  rw [tmod_P, tmod_P]
  have h1 := mod_lt n
  have h2 := mod_lt m
  have hp : PP = 2305843009213693951 := rfl
  have e1 : IntKind.u64.wrap (2305843009213693951 - ((m % PP : Nat) : Int)) = ((PP - m % PP : Nat) : Int) := by
    rw [wrap_u64]; omega
  rw [e1, ← Int.natCast_add, wu _ (by omega), tmod_P, ← c_sub_mod]
  rw [Nat.mod_add_mod]
  rfl

/-- more rounds tell the same -/
theorem lift {α : Type} {f : Nat → Option α} (h : ∀ k, LeO (f k) (f (k + 1))) {k k' : Nat} (hk : k ≤ k') {r : α} (e : f k = some r) : f k' = some r := by
  obtain ⟨d, rfl⟩ : ∃ d, k' = k + d := ⟨k' - k, by omega⟩
  induction d with
  | zero => exact e
  | succ d ih => exact h (k + d) r (ih (by omega))

theorem shr_nat (n j : Nat) (hj : j ≤ 64) : shr .u64 (n : Int) (j : Int) = ((n / 2 ^ j : Nat) : Int) := by
  unfold shr
  have e : min (Int.toNat (j : Int)) IntKind.u64.bits = j := by
    rw [Int.toNat_natCast]
    exact Nat.min_eq_left hj
  rw [e]
  exact (by simp : ((n : Int) / 2 ^ j) = ((n / 2 ^ j : Nat) : Int))

theorem wrap64_in' (n : Int) (h : -9223372036854775808 ≤ n) (h1 : n ≤ 9223372036854775807) : wrap64 n = n := by unfold wrap64; omega

theorem rmul_down (k a b o : Nat) (i : Int) (r : Int) (ho : o < 3 * 2305843009213693951)
    (h : caucusref01_Mul.l0 k (a : Int) (b : Int) ((o % PP : Nat) : Int) (wrap64 (i - 1)) = some r) :
    caucusref01_Mul.l1 (k + 3) (a : Int) (b : Int) (o : Int) i = some r := by
  have hp : PP = 2305843009213693951 := rfl
  have m0 : caucusref01_Mul.l0 (k + 1) (a : Int) (b : Int) ((o % PP : Nat) : Int) (wrap64 (i - 1)) = some r := (caucusref01_Mul.mono_l k).1 _ _ _ _ r h
  have m1 : caucusref01_Mul.l0 (k + 2) (a : Int) (b : Int) ((o % PP : Nat) : Int) (wrap64 (i - 1)) = some r := (caucusref01_Mul.mono_l (k + 1)).1 _ _ _ _ r m0
  by_cases c1 : o < 2305843009213693951
  · simp only [caucusref01_Mul.l1]
    rw [if_neg (by omega)]
    rw [Nat.mod_eq_of_lt (show o < PP from c1)] at m1
    exact m1
  · by_cases c2 : o - 2305843009213693951 < 2305843009213693951
    · simp only [caucusref01_Mul.l1]
      have e1 : IntKind.u64.wrap ((o : Int) - 2305843009213693951) = ((o % PP : Nat) : Int) := by rw [wrap_u64, hp]; omega
      rw [if_pos (by omega), e1, if_neg (by rw [hp]; omega)]
      exact m0
    · simp only [caucusref01_Mul.l1]
      have e1 : IntKind.u64.wrap ((o : Int) - 2305843009213693951) = ((o - 2305843009213693951 : Nat) : Int) := by rw [wrap_u64]; omega
      have e2 : IntKind.u64.wrap (((o - 2305843009213693951 : Nat) : Int) - 2305843009213693951) = ((o % PP : Nat) : Int) := by rw [wrap_u64, hp]; omega
      rw [if_pos (by omega), e1, if_pos (by omega), e2, if_neg (by rw [hp]; omega)]
      exact h

theorem half_bit (n j : Nat) : n / 2 ^ j = 2 * (n / 2 ^ (j + 1)) + n / 2 ^ j % 2 := by
  have e : n / 2 ^ (j + 1) = n / 2 ^ j / 2 := by rw [Nat.pow_succ, Nat.div_div_eq_div_mul]
  rw [e]; omega

theorem mul_bit1 (a q t : K) : t * (a * q) + a = a * (t * q + 1) := by grind
theorem mul_bit0 (a q t : K) : t * (a * q) = a * (t * q + 0) := by
  rw [k_add_zero]; grind

theorem rmul_loop (j : Nat) : ∀ (k a b o : Nat), 5 * j + 1 ≤ k → a < 2305843009213693951 → j ≤ 61 → o < 2305843009213693951 → c o = c a * c (b / 2 ^ j) →
    caucusref01_Mul.l0 k (a : Int) (b : Int) (o : Int) ((j : Int) - 1) = some ((c a * c b).val : Int) := by
  induction j with
  | zero =>
    intro k a b o hk ha _ ho hc
    obtain ⟨k, rfl⟩ : ∃ m, k = m + 1 := ⟨k - 1, by omega⟩
    simp only [caucusref01_Mul.l0]
    rw [if_neg (by omega), val_eq ho hc, Nat.pow_zero, Nat.div_one]
  | succ j ih =>
    intro k a b o hk ha hj ho hc
    obtain ⟨k, rfl⟩ : ∃ m, k = m + 3 + 1 + 1 := ⟨k - 5, by omega⟩
    have ej : (((j + 1 : Nat) : Int) - 1) = (j : Int) := by omega
    rw [ej]
    have hb := half_bit b j
    have hpp : PP = 2305843009213693951 := rfl
    have eo : IntKind.u64.wrap (2 * (o : Int)) = ((2 * o : Nat) : Int) := by rw [wrap_u64]; omega
    simp only [caucusref01_Mul.l0, caucusref01_Mul.j1]
    rw [if_pos (by omega), wu j (by omega), if_pos (by omega), shr_nat b j (by omega), eo]
    rw [show (2 : Int) = ((2 : Nat) : Int) from rfl, tmod_nat]
    by_cases h1 : b / 2 ^ j % 2 = 1
    · rw [if_pos (by omega)]
      have eo2 : IntKind.u64.wrap (((2 * o : Nat) : Int) + (a : Int)) = ((2 * o + a : Nat) : Int) := by rw [wrap_u64]; omega
      rw [eo2]
      refine rmul_down _ _ _ _ _ _ (by omega) ?_
      rw [wrap64_in' _ (by omega) (by omega)]
      refine ih k a b _ (by omega) ha (by omega) (mod_lt _) ?_
      rw [hb, h1]
      simp only [c_mod, c_add, c_mul, c_one]
      rw [hc]
      exact mul_bit1 _ _ _
    · rw [if_neg (by omega)]
      refine rmul_down _ _ _ _ _ _ (by omega) ?_
      rw [wrap64_in' _ (by omega) (by omega)]
      refine ih k a b _ (by omega) ha (by omega) (mod_lt _) ?_
      rw [hb, show b / 2 ^ j % 2 = 0 by omega]
      simp only [c_mod, c_add, c_mul, c_zero]
      rw [hc]
      exact mul_bit0 _ _ _

theorem rmul_c (k n m : Nat) (hk : 400 ≤ k) : caucusref01_Mul.f k (n : Int) (m : Int) = some ((c n * c m).val : Int) := by
  unfold caucusref01_Mul.f
  rw [tmod_P, tmod_P]
  have h2 : m % PP < 2 ^ 61 := by have := mod_lt m; have h61 : (2 : Nat) ^ 61 = 2305843009213693952 := by decide
                                  omega
  have h := rmul_loop 61 k (n % PP) (m % PP) 0 (by omega) (mod_lt n) (by decide) (by decide) (by rw [Nat.div_eq_of_lt h2, c_zero]; grind)
  rw [c_mod, c_mod] at h
  exact h

theorem rpow_loop (j : Nat) : ∀ (k a e o : Nat), 400 + j + 1 ≤ k → j ≤ 64 → o < 2305843009213693951 → c o = c a ^ (e / 2 ^ j) →
    caucusref01_Pow.l0 k (a : Int) (e : Int) (o : Int) ((j : Int) - 1) = some ((c a ^ e).val : Int) := by
  induction j with
  | zero =>
    intro k a e o hk _ ho hc
    obtain ⟨k, rfl⟩ : ∃ m, k = m + 1 := ⟨k - 1, by omega⟩
    simp only [caucusref01_Pow.l0]
    rw [if_neg (by omega), val_eq ho hc, Nat.pow_zero, Nat.div_one]
  | succ j ih =>
    intro k a e o hk hj ho hc
    obtain ⟨k, rfl⟩ : ∃ m, k = m + 1 := ⟨k - 1, by omega⟩
    have ej : (((j + 1 : Nat) : Int) - 1) = (j : Int) := by omega
    rw [ej]
    have hb := half_bit e j
    simp only [caucusref01_Pow.l0]
    rw [if_pos (by omega), rmul_c _ _ _ (by omega)]
    simp only [obind]
    rw [wu j (by omega), if_pos (by omega), shr_nat e j (by omega), wrap64_in' _ (by omega) (by omega)]
    rw [show (2 : Int) = ((2 : Nat) : Int) from rfl, tmod_nat]
    by_cases h1 : e / 2 ^ j % 2 = 1
    · rw [if_pos (by omega), rmul_c _ _ _ (by omega)]
      simp only [obind]
      refine ih k a e _ (by omega) (by omega) (kval_lt _) ?_
      rw [hb, h1, c_of_val, c_of_val, hc, k_pow_sq1]
    · rw [if_neg (by omega)]
      refine ih k a e _ (by omega) (by omega) (kval_lt _) ?_
      rw [hb, show e / 2 ^ j % 2 = 0 by omega, c_of_val, hc, k_pow_sq]
      rfl

theorem rpow_c (k n e : Nat) (he : e < 18446744073709551616) (hk : 500 ≤ k) : caucusref01_Pow.f k (n : Int) (e : Int) = some ((c n ^ e).val : Int) := by
  unfold caucusref01_Pow.f
  have h2 : e < 2 ^ 64 := by have h64 : (2 : Nat) ^ 64 = 18446744073709551616 := by decide
                             omega
  exact rpow_loop 64 k n e 1 (by omega) (by decide) (by decide) (by rw [Nat.div_eq_of_lt h2, c_one]; grind)

/-! ### the reference's inverse: Euclid's way, in fewer rounds than 100, since Fibonacci's numbers grow -/
def fb2 : Nat → Nat × Nat
  | 0 => (0, 1)
  | n + 1 => ((fb2 n).2, (fb2 n).1 + (fb2 n).2)
def fb (n : Nat) : Nat := (fb2 n).1
theorem fb_step (n : Nat) : fb (n + 2) = fb n + fb (n + 1) := rfl
theorem fb_far : 2305843009213693951 < fb 103 := by decide +kernel

def gi (g : Nat) (v : Nat) : Int := if g = 1 then (v : Int) else 0

theorem rinv_loop (d : Nat) : ∀ (k : Nat) (A : K) (r s x y : Nat) (i : Nat), 402 + 2 * d ≤ k → s < r → r < 2305843009213693952 → x < 2305843009213693951 → y < 2305843009213693951 →
    c x * A = c r → c y * A = c s → (s < fb (d + 2) ∨ r < fb (d + 3)) → i + d ≤ 100 →
    caucusref01_Inv.l0 k (r : Int) (s : Int) (x : Int) (y : Int) (i : Int) = some (gi (Nat.gcd r s) (kinv A).val) := by
  induction d with
  | zero =>
    intro k A r s x y i hk hs hr hx hy h1 h2 hf hi
    obtain ⟨k, rfl⟩ : ∃ m, k = m + 1 + 1 := ⟨k - 2, by omega⟩
    have hs0 : s = 0 := by
      have e2 : fb 2 = 1 := rfl
      have e3 : fb 3 = 2 := rfl
      simp only [Nat.zero_add, e2, e3] at hf
      omega
    subst hs0
    simp only [caucusref01_Inv.l0, caucusref01_Inv.j1, Nat.gcd_zero_right]
    have hd : decide (((0 : Nat) : Int) > 0) = false := by decide
    rw [hd]
    simp only [ite_self, Bool.false_eq_true, if_false]
    by_cases e : r = 1
    · subst e
      rw [gi, if_pos rfl, if_pos (by omega), val_eq hx rfl]
      rw [c_one] at h1
      rw [kinv_uniq A (c x) h1]
    · rw [gi, if_neg e, if_neg (by omega)]
  | succ d ih =>
    intro k A r s x y i hk hs hr hx hy h1 h2 hf hi
    obtain ⟨k, rfl⟩ : ∃ m, k = m + 1 + 1 := ⟨k - 2, by omega⟩
    by_cases hs0 : s = 0
    · subst hs0
      simp only [caucusref01_Inv.l0, caucusref01_Inv.j1, Nat.gcd_zero_right]
      have hd : decide (((0 : Nat) : Int) > 0) = false := by decide
      rw [hd]
      simp only [ite_self, Bool.false_eq_true, if_false]
      by_cases e : r = 1
      · subst e
        rw [gi, if_pos rfl, if_pos (by omega), val_eq hx rfl]
        rw [c_one] at h1
        rw [kinv_uniq A (c x) h1]
      · rw [gi, if_neg e, if_neg (by omega)]
    · simp only [caucusref01_Inv.l0, caucusref01_Inv.j1]
      have hd : decide ((s : Int) > 0) = true := by apply decide_eq_true; omega
      rw [hd, if_pos (by omega), if_pos rfl, if_neg (by omega)]
      have hq : r / s ≤ r := Nat.div_le_self r s
      have hqs : r / s * s ≤ r := Nat.div_mul_le_self r s
      have hm : r % s < s := Nat.mod_lt _ (by omega)
      have hrm : s * (r / s) + r % s = r := Nat.div_add_mod r s
      have hq1 : 1 ≤ r / s := (Nat.one_le_div_iff (by omega)).2 (by omega)
      rw [tdiv_nat, wu _ (by omega), rmul_c _ _ _ (by omega)]
      simp only [obind]
      rw [rsub_c]
      simp only [obind]
      rw [← Int.natCast_mul, wu (r / s * s) (by omega)]
      have e1 : IntKind.u64.wrap ((r : Int) - ((r / s * s : Nat) : Int)) = ((r % s : Nat) : Int) := by
        rw [wrap_u64]
        rw [Nat.mul_comm] at hrm
        omega
      rw [e1, wrap64_in' _ (by omega) (by omega), c_of_val]
      have hle : s ≤ s * (r / s) := Nat.le_mul_of_pos_right s hq1
      have hg : Nat.gcd r s = Nat.gcd s (r % s) := by rw [Nat.gcd_comm, Nat.gcd_rec, Nat.gcd_comm]
      rw [hg]
      have h3 := ih k A s (r % s) y ((c x - c (r / s) * c y).val) (i + 1) (by omega) hm (by omega) hy (kval_lt _) h2 (by
        rw [c_of_val]
        have : c r = c s * c (r / s) + c (r % s) := by rw [← c_mul, ← c_add, hrm]
        grind) (by
        have e4 : fb (d + 1 + 3) = fb (d + 2) + fb (d + 3) := fb_step (d + 2)
        have e5 : fb (d + 1 + 2) = fb (d + 3) := rfl
        rw [e4, e5] at hf
        rcases hf with hf | hf
        · exact Or.inr hf
        · by_cases q : s < fb (d + 3)
          · exact Or.inr q
          · left
            omega) (by omega)
      exact h3

theorem rinv_c (k n : Nat) (hk : 700 ≤ k) : caucusref01_Inv.f k (n : Int) = some ((kinv (c n)).val : Int) := by
  unfold caucusref01_Inv.f
  rw [tmod_P]
  have h := rinv_loop 100 k (c n) 2305843009213693951 (n % PP) 0 1 0 (by omega) (mod_lt n) (by decide) (by decide) (by decide) (by
    rw [c_zero, show (2305843009213693951 : Nat) = PP from rfl, c_self]; grind) (by rw [c_one, c_mod]; grind) (Or.inr (by have := fb_far; omega)) (by decide)
  refine Eq.trans h ?_
  clear h
  by_cases h0 : n % PP = 0
  · rw [h0, Nat.gcd_zero_right, gi, if_neg (by decide), c_eq_zero.2 h0, kinv_zero]; rfl
  · have hg : Nat.gcd 2305843009213693951 (n % PP) = 1 := by
      rcases prm_PP.2 (Nat.gcd 2305843009213693951 (n % PP)) (2305843009213693951 / Nat.gcd 2305843009213693951 (n % PP)) (by
        rw [Nat.mul_div_cancel' (Nat.gcd_dvd_left _ _)]; exact Nat.dvd_refl _) with h1 | h1
      · exfalso
        have h2 := Nat.dvd_trans h1 (Nat.gcd_dvd_right 2305843009213693951 (n % PP))
        have h3 := Nat.le_of_dvd (by omega) h2
        have h4 := mod_lt n
        have hpp : PP = 2305843009213693951 := rfl
        omega
      · have h2 : 2305843009213693951 / Nat.gcd 2305843009213693951 (n % PP) * Nat.gcd 2305843009213693951 (n % PP) = 2305843009213693951 := Nat.div_mul_cancel (Nat.gcd_dvd_left _ _)
        have hpos : 0 < Nat.gcd 2305843009213693951 (n % PP) := Nat.gcd_pos_of_pos_left _ (by decide)
        have hqpos : 0 < 2305843009213693951 / Nat.gcd 2305843009213693951 (n % PP) := by
          rcases Nat.eq_zero_or_pos (2305843009213693951 / Nat.gcd 2305843009213693951 (n % PP)) with z | z
          · rw [z] at h2; simp at h2
          · exact z
        have h3 := Nat.le_of_dvd hqpos h1
        have hpp : PP = 2305843009213693951 := rfl
        generalize 2305843009213693951 / Nat.gcd 2305843009213693951 (n % PP) = q at *
        generalize Nat.gcd 2305843009213693951 (n % PP) = g at *
        rcases Nat.lt_or_ge g 2 with z | z
        · omega
        · have := Nat.mul_le_mul h3 z
          omega
    rw [hg, gi, if_pos rfl]
end Go.Proofs.YtbfgppecpkfcnaaDoor.PFp
