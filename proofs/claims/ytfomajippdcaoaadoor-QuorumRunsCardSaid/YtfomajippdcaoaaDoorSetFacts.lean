/-
  What the printed functions of set, of its reference, and of the laws' comparers answer.
-/
import Derived.Test.YtfomajippdcaoaaDoorPSetx1
import Derived.Test.YtfomajippdcaoaaDoorPSetx2
import Derived.Test.YtfomajippdcaoaaDoorPSetx3
import Derived.Laws.BitsLemmas
namespace Go.Proofs.YtfomajippdcaoaaDoor.PSet
open Go.RowKit Go.Proofs.YtfomajippdcaoaaDoorW.PrintWords Go.Proofs.YtfomajippdcaoaaDoorW.PrintLast Go.Proofs.YtfomajippdcaoaaDoorW.PrintMore

theorem obind {α β : Type} (a : α) (f : α → Option β) : (some a).bind f = f a := (Option.bind_some a f).trans (Eq.refl (f a))
theorem wrap64_in' (n : Int) (h : -9223372036854775808 ≤ n) (h1 : n ≤ 9223372036854775807) : wrap64 n = n := by unfold wrap64; omega
theorem wrap_u64 (n : Int) : IntKind.u64.wrap n = n % 18446744073709551616 := by simp [IntKind.wrap, IntKind.bits, IntKind.signed]
theorem rd_at (l : List Int) (j : Nat) (h : j < l.length) : rd l (j : Int) = l[j] := by
  simp [rd, List.getElem?_eq_getElem h]

/-! ### are two lists the same? -/
theorem dec_eq {x y : Int} {l m : List Int} (e : x = y) : decide (x :: l = y :: m) = decide (l = m) := by subst e; simp
theorem dec_ne {x y : Int} {l m : List Int} (e : x ≠ y) : decide (x :: l = y :: m) = false := by
  apply decide_eq_false
  intro h
  exact e (List.cons.inj h).1
theorem drop_at {α : Type} (l : List α) (j : Nat) (h : j < l.length) : l.drop j = l[j] :: l.drop (j + 1) := List.drop_eq_getElem_cons h

theorem equal_loop (d : Nat) : ∀ (k : Nat) (a b : List Int) (j : Nat), a.length = b.length → a.length ≤ j + d → j ≤ a.length → a.length ≤ 1000 → d < k →
    slices_Equal_int_int.l0 k a b (a.length : Int) (j : Int) = some (decide (a.drop j = b.drop j)) := by
  induction d with
  | zero =>
    intro k a b j hl hd hj _ hk
    obtain ⟨k, rfl⟩ : ∃ m, k = m + 1 := ⟨k - 1, by omega⟩
    simp only [slices_Equal_int_int.l0]
    rw [if_neg (by omega), List.drop_of_length_le (by omega), List.drop_of_length_le (by omega)]
    rfl
  | succ d ih =>
    intro k a b j hl hd hj hs hk
    obtain ⟨k, rfl⟩ : ∃ m, k = m + 1 := ⟨k - 1, by omega⟩
    by_cases hlt : j < a.length
    · simp only [slices_Equal_int_int.l0]
      rw [if_pos (by omega), if_pos (by omega), if_pos (by omega), if_pos (by omega), rd_at a j hlt, rd_at b j (by omega), drop_at a j hlt, drop_at b j (by omega)]
      by_cases e : a[j] = b[j]'(by omega)
      · rw [if_pos e, wrap64_in' _ (by omega) (by omega)]
        have h := ih k a b (j + 1) hl (by omega) (by omega) hs (by omega)
        rw [show ((j : Int) + 1) = ((j + 1 : Nat) : Int) by omega, h, dec_eq e]
      · rw [if_neg e, dec_ne e]
    · simp only [slices_Equal_int_int.l0]
      rw [if_neg (by omega), List.drop_of_length_le (by omega), List.drop_of_length_le (by omega)]
      rfl
theorem equal_tells (k : Nat) (a b : List Int) (ha : a.length ≤ 1000) (hk : 1000 < k) : slices_Equal_int_int.f k a b = some (decide (a = b)) := by
  unfold slices_Equal_int_int.f
  by_cases h : a.length = b.length
  · rw [if_pos (by omega)]
    exact equal_loop a.length k a b 0 h (by omega) (by omega) ha (by omega)
  · rw [if_neg (by omega)]
    congr 1
    exact (decide_eq_false (fun e => h (by rw [e]))).symm

theorem ints_loop (d : Nat) : ∀ (k : Nat) (a b : List Int) (j : Nat), a.length = b.length → a.length ≤ j + d → j ≤ a.length → a.length ≤ 1000 → d < k →
    caucuslaw26_ints.l0 k a b (j : Int) = some (decide (a.drop j = b.drop j)) := by
  induction d with
  | zero =>
    intro k a b j hl hd hj _ hk
    obtain ⟨k, rfl⟩ : ∃ m, k = m + 1 := ⟨k - 1, by omega⟩
    simp only [caucuslaw26_ints.l0]
    rw [if_neg (by omega), List.drop_of_length_le (by omega), List.drop_of_length_le (by omega)]
    rfl
  | succ d ih =>
    intro k a b j hl hd hj hs hk
    obtain ⟨k, rfl⟩ : ∃ m, k = m + 1 := ⟨k - 1, by omega⟩
    by_cases hlt : j < a.length
    · simp only [caucuslaw26_ints.l0]
      rw [if_pos (by omega), if_pos (by omega), if_pos (by omega), rd_at a j hlt, rd_at b j (by omega), drop_at a j hlt, drop_at b j (by omega)]
      by_cases e : a[j] = b[j]'(by omega)
      · rw [if_pos e, wrap64_in' _ (by omega) (by omega)]
        have h := ih k a b (j + 1) hl (by omega) (by omega) hs (by omega)
        rw [show ((j : Int) + 1) = ((j + 1 : Nat) : Int) by omega, h, dec_eq e]
      · rw [if_neg e, dec_ne e]
    · simp only [caucuslaw26_ints.l0]
      rw [if_neg (by omega), List.drop_of_length_le (by omega), List.drop_of_length_le (by omega)]
      rfl
theorem ints_tells (k : Nat) (a b : List Int) (ha : a.length ≤ 1000) (hk : 1000 < k) : caucuslaw26_ints.f k a b = some (decide (a = b)) := by
  unfold caucuslaw26_ints.f
  by_cases h : a.length = b.length
  · rw [if_pos (by omega)]
    exact ints_loop a.length k a b 0 h (by omega) (by omega) ha (by omega)
  · rw [if_neg (by omega)]
    congr 1
    exact (decide_eq_false (fun e => h (by rw [e]))).symm

/-! ### is it a set? -/
/-- numbers from 0 to 63, each greater than the one ahead of it -/
def inc (last : Int) : List Int → Bool
  | [] => true
  | a :: l => decide (last < a) && decide (a < 64) && inc a l

theorem check_loop (d : Nat) : ∀ (k : Nat) (l : List Int) (last : Int) (j : Nat), l.length ≤ j + d → j ≤ l.length → l.length ≤ 1000 → d < k →
    set_Check.l0 k last l (l.length : Int) (j : Int) = some (if inc last (l.drop j) = true then none else some 1) := by
  induction d with
  | zero =>
    intro k l last j hd hj _ hk
    obtain ⟨k, rfl⟩ : ∃ m, k = m + 1 := ⟨k - 1, by omega⟩
    simp only [set_Check.l0]
    rw [if_neg (by omega), List.drop_of_length_le (by omega)]
    rfl
  | succ d ih =>
    intro k l last j hd hj hs hk
    obtain ⟨k, rfl⟩ : ∃ m, k = m + 1 := ⟨k - 1, by omega⟩
    by_cases hlt : j < l.length
    · simp only [set_Check.l0]
      rw [if_pos (by omega), if_pos (by omega), if_pos (by omega), rd_at l j hlt, drop_at l j hlt]
      by_cases h1 : l[j] ≤ last
      · rw [if_pos h1]
        have e : decide (last < l[j]) = false := decide_eq_false (by omega)
        simp [inc, e]
      · rw [if_neg h1]
        have e : decide (last < l[j]) = true := decide_eq_true (by omega)
        by_cases h2 : l[j] ≥ 64
        · rw [if_pos h2]
          have e2 : decide (l[j] < 64) = false := decide_eq_false (by omega)
          simp [inc, e2]
        · rw [if_neg h2, wrap64_in' _ (by omega) (by omega)]
          have e2 : decide (l[j] < 64) = true := decide_eq_true (by omega)
          have h := ih k l l[j] (j + 1) (by omega) (by omega) hs (by omega)
          rw [show ((j : Int) + 1) = ((j + 1 : Nat) : Int) by omega, h]
          simp only [inc, e, e2, Bool.true_and]
    · simp only [set_Check.l0]
      rw [if_neg (by omega), List.drop_of_length_le (by omega)]
      rfl
theorem check_tells (k : Nat) (l : List Int) (hl : l.length ≤ 1000) (hk : 1000 < k) : set_Check.f k l = some (if inc (-1) l = true then none else some 1) :=
  check_loop l.length k l (-1) 0 (by omega) (by omega) hl (by omega)

theorem inc_ge (l : List Int) : ∀ (last x : Int), inc last l = true → x ∈ l → last < x ∧ x < 64 := by
  induction l with
  | nil => intro last x _ h; cases h
  | cons a l ih =>
    intro last x h hx
    simp only [inc, Bool.and_eq_true, decide_eq_true_eq] at h
    rcases List.mem_cons.1 hx with rfl | hx
    · exact ⟨h.1.1, h.1.2⟩
    · have := ih a x h.2 hx
      omega
theorem inc_len (l : List Int) : ∀ (last : Int), -1 ≤ last → last < 64 → inc last l = true → (l.length : Int) ≤ 63 - last := by
  induction l with
  | nil => intro last _ _ _; simp; omega
  | cons a l ih =>
    intro last h0 h1 h
    simp only [inc, Bool.and_eq_true, decide_eq_true_eq] at h
    have := ih a (by omega) h.1.2 h.2
    simp only [List.length_cons]
    omega

/-! ### bits -/
theorem u64_fits : ∀ n : Int, 0 ≤ n → n < 2 ^ 64 → IntKind.u64.wrap n = n := fun n h0 h1 => by rw [wrap_u64]; omega
theorem u64_and (a b : Nat) (ha : a < 2 ^ 64) (hb : b < 2 ^ 64) : Go.bits .and .u64 (a : Int) (b : Int) = ((a &&& b : Nat) : Int) := (bits_nat .u64 64 (by decide) u64_fits a b ha hb).1
theorem u64_or (a b : Nat) (ha : a < 2 ^ 64) (hb : b < 2 ^ 64) : Go.bits .or .u64 (a : Int) (b : Int) = ((a ||| b : Nat) : Int) := (bits_nat .u64 64 (by decide) u64_fits a b ha hb).2
theorem u64_andNot (a b : Nat) (_ : a < 2 ^ 64) (_ : b < 2 ^ 64) : ∃ c : Nat, Go.bits .andNot .u64 (a : Int) (b : Int) = (c : Int) ∧ c < 2 ^ 64 ∧ ∀ n, n < 64 → c.testBit n = (a.testBit n && !b.testBit n) := by
  refine ⟨(BitVec.ofNat 64 a &&& ~~~ BitVec.ofNat 64 b).toNat, ?_, BitVec.isLt _, fun n hn => ?_⟩
  · simp only [Go.bits, BitVec.ofInt_natCast]
    exact u64_fits _ (Int.natCast_nonneg _) (by exact_mod_cast BitVec.isLt _)
  · rw [BitVec.testBit_toNat]
    rw [BitVec.getLsbD_and, BitVec.getLsbD_not, BitVec.getLsbD_ofNat, BitVec.getLsbD_ofNat]
    simp [hn]

theorem bit_is (a : Nat) (ha : a < 2 ^ 64) (n : Nat) (hn : n < 64) : Go.bits .and .u64 (shr .u64 (a : Int) (IntKind.u64.wrap (n : Int))) 1 = if a.testBit n = true then 1 else 0 := by
  have e1 : IntKind.u64.wrap (n : Int) = (n : Int) := by rw [wrap_u64]; omega
  have e2 : shr .u64 (a : Int) (n : Int) = ((a / 2 ^ n : Nat) : Int) := by
    unfold shr
    rw [Int.toNat_natCast, Nat.min_eq_left (by show n ≤ 64; omega)]
    simp
  have h3 : a / 2 ^ n < 2 ^ 64 := Nat.lt_of_le_of_lt (Nat.div_le_self _ _) ha
  have h4 := u64_and (a / 2 ^ n) 1 h3 (by decide)
  rw [e1, e2]
  refine h4.trans ?_
  rw [Nat.and_one_is_mod, Nat.testBit_eq_decide_div_mod_eq]
  by_cases h : a / 2 ^ n % 2 = 1
  · simp [h]
  · have : a / 2 ^ n % 2 = 0 := by omega
    simp [this]

/-- the numbers from 0 to 63 of which it is so -/
def sel (p : Nat → Bool) : List Int := ((List.range 64).filter p).map fun (n : Nat) => (n : Int)
theorem sel_congr {p q : Nat → Bool} (h : ∀ n, n < 64 → p n = q n) : sel p = sel q := by
  unfold sel
  rw [List.filter_congr (fun n hn => h n (by simpa using hn))]
theorem sel_len (p : Nat → Bool) : (sel p).length ≤ 64 := by
  unfold sel
  rw [List.length_map]
  exact Nat.le_trans (List.length_filter_le _ _) (by simp)

theorem from_loop (d : Nat) : ∀ (k : Nat) (v : Nat) (j : Nat), v < 2 ^ 64 → j + d = 64 → d < k →
    set_From.l0 k (v : Int) (((List.range j).filter fun n => v.testBit n).map fun (n : Nat) => (n : Int)) (j : Int) = some (sel fun n => v.testBit n) := by
  induction d with
  | zero =>
    intro k v j hv hj hk
    obtain ⟨k, rfl⟩ : ∃ m, k = m + 1 := ⟨k - 1, by omega⟩
    obtain rfl : j = 64 := by omega
    simp only [set_From.l0]
    rw [if_neg (by omega)]
    rfl
  | succ d ih =>
    intro k v j hv hj hk
    obtain ⟨k, rfl⟩ : ∃ m, k = m + 1 := ⟨k - 1, by omega⟩
    have h := ih k v (j + 1) hv (by omega) (by omega)
    rw [List.range_succ, List.filter_append, List.map_append] at h
    have hlen : (((List.range j).filter fun n => v.testBit n).map fun (n : Nat) => (n : Int)).length ≤ 64 := by
      rw [List.length_map]
      exact Nat.le_trans (List.length_filter_le _ _) (by simp; omega)
    simp only [set_From.l0]
    rw [if_pos (by omega), if_pos (by rw [wrap_u64]; omega), bit_is v hv j (by omega), wrap64_in' _ (by omega) (by omega)]
    by_cases hb : v.testBit j = true
    · rw [if_pos (by rw [if_pos hb]), if_pos (by omega)]
      simpa [hb] using h
    · rw [if_neg (by rw [if_neg hb]; decide)]
      simpa [hb] using h
theorem from_tells (k : Nat) (v : Nat) (hv : v < 2 ^ 64) (hk : 64 < k) : set_From.f k (v : Int) = some (sel fun n => v.testBit n) :=
  from_loop 64 k v 0 hv (by omega) hk

theorem bits_loop (d : Nat) : ∀ (k : Nat) (l : List Int) (v : Nat) (j : Nat), l.length ≤ j + d → j ≤ l.length → l.length ≤ 1000 → d < k → v < 2 ^ 64 → (∀ n, n < 64 → v.testBit n = decide ((n : Int) ∈ l.take j)) →
    ∃ u : Nat, set_Bits.l0 k (v : Int) l (l.length : Int) (j : Int) = some (u : Int) ∧ u < 2 ^ 64 ∧ ∀ n, n < 64 → u.testBit n = decide ((n : Int) ∈ l) := by
  induction d with
  | zero =>
    intro k l v j hd hj _ hk hv hb
    obtain ⟨k, rfl⟩ : ∃ m, k = m + 1 := ⟨k - 1, by omega⟩
    refine ⟨v, ?_, hv, fun n hn => ?_⟩
    · simp only [set_Bits.l0]
      rw [if_neg (by omega)]
    · rw [hb n hn, List.take_of_length_le (by omega)]
  | succ d ih =>
    intro k l v j hd hj hs hk hv hb
    obtain ⟨k, rfl⟩ : ∃ m, k = m + 1 := ⟨k - 1, by omega⟩
    by_cases hlt : j < l.length
    · have htk : l.take (j + 1) = l.take j ++ [l[j]] := by rw [List.take_add_one, List.getElem?_eq_getElem hlt]; rfl
      have hsame : (∀ n, n < 64 → l[j] ≠ (n : Nat)) → ∀ n, n < 64 → v.testBit n = decide ((n : Int) ∈ l.take (j + 1)) := by
        intro hne n hn
        rw [hb n hn, htk]
        have := hne n hn
        simp only [List.mem_append, List.mem_singleton, decide_eq_decide]
        constructor
        · exact Or.inl
        · rintro (h | h)
          · exact h
          · exact absurd h.symm this
      simp only [set_Bits.l0]
      rw [if_pos (by omega), if_pos (by omega), if_pos (by omega), rd_at l j hlt]
      rw [wrap64_in' _ (by omega) (by omega), show ((j : Int) + 1) = ((j + 1 : Nat) : Int) by omega]
      by_cases h1 : l[j] ≥ 0
      · rw [if_pos h1]
        by_cases h2 : l[j] < 64
        · rw [if_pos h2, if_pos (by rw [wrap_u64]; omega)]
          obtain ⟨m, hm⟩ := Int.eq_ofNat_of_zero_le h1
          have hm64 : m < 64 := by omega
          have e1 : IntKind.u64.wrap (l[j]) = ((m : Nat) : Int) := by rw [hm, wrap_u64]; omega
          have e2 : shl .u64 1 ((m : Nat) : Int) = ((2 ^ m : Nat) : Int) := by
            unfold shl
            rw [Int.toNat_natCast, Nat.min_eq_left (by show m ≤ 64; omega), Int.one_mul]
            have hp : 2 ^ m < 2 ^ 64 := Nat.pow_lt_pow_right (by decide) hm64
            rw [show ((2 : Int) ^ m) = ((2 ^ m : Nat) : Int) by simp]
            exact u64_fits _ (Int.natCast_nonneg _) (by exact_mod_cast hp)
          have hp : 2 ^ m < 2 ^ 64 := Nat.pow_lt_pow_right (by decide) hm64
          rw [e1, e2, u64_or v (2 ^ m) hv hp]
          refine ih k l (v ||| 2 ^ m) (j + 1) (by omega) (by omega) hs (by omega) (Nat.or_lt_two_pow hv hp) (fun n hn => ?_)
          rw [Nat.testBit_or, Nat.testBit_two_pow, hb n hn, htk]
          by_cases e : m = n
          · subst e
            simp [hm]
          · have h9 : ¬ (n : Int) = l[j] := by omega
            have e3 : decide (m = n) = false := decide_eq_false e
            rw [e3, Bool.or_false]
            simp only [List.mem_append, List.mem_singleton, decide_eq_decide]
            constructor
            · exact Or.inl
            · rintro (h | h)
              · exact h
              · exact absurd h h9
        · rw [if_neg h2]
          exact ih k l v (j + 1) (by omega) (by omega) hs (by omega) hv (hsame (fun n hn => by omega))
      · rw [if_neg h1]
        exact ih k l v (j + 1) (by omega) (by omega) hs (by omega) hv (hsame (fun n hn => by omega))
    · refine ⟨v, ?_, hv, fun n hn => ?_⟩
      · simp only [set_Bits.l0]
        rw [if_neg (by omega)]
      · rw [hb n hn, List.take_of_length_le (by omega)]
theorem bits_tells (k : Nat) (l : List Int) (hl : l.length ≤ 1000) (hk : 1000 < k) :
    ∃ u : Nat, set_Bits.f k l = some (u : Int) ∧ u < 2 ^ 64 ∧ ∀ n, n < 64 → u.testBit n = decide ((n : Int) ∈ l) :=
  bits_loop l.length k l 0 0 (by omega) (by omega) hl (by omega) (by decide) (fun n _ => by simp)

theorem has_tells (k : Nat) (l : List Int) (n : Int) (hl : l.length ≤ 1000) (hk : 1000 < k) : set_Has.f k l n = some (decide (0 ≤ n ∧ n < 64 ∧ n ∈ l)) := by
  unfold set_Has.f
  by_cases h1 : n ≥ 0
  · rw [if_pos h1]
    by_cases h2 : n < 64
    · rw [if_pos h2]
      obtain ⟨u, hu, hlt, hb⟩ := bits_tells k l hl hk
      obtain ⟨m, rfl⟩ := Int.eq_ofNat_of_zero_le h1
      rw [hu]
      simp only [obind]
      rw [if_pos (by rw [wrap_u64]; omega), bit_is u hlt m (by omega), hb m (by omega)]
      by_cases h : (m : Int) ∈ l
      · simp [h]; omega
      · simp [h]
    · rw [if_neg h2]
      congr 1
      exact (decide_eq_false (fun h => h2 h.2.1)).symm
  · rw [if_neg h1]
    congr 1
    exact (decide_eq_false (fun h => h1 h.1)).symm
theorem less_tells (k : Nat) (a b : List Int) (ha : a.length ≤ 1000) (hb : b.length ≤ 1000) (hk : 1000 < k) : set_Less.f k a b = some (sel fun n => decide ((n : Int) ∈ a) && !decide ((n : Int) ∈ b)) := by
  unfold set_Less.f
  obtain ⟨u, hu, hlt, hbu⟩ := bits_tells k a ha hk
  obtain ⟨v, hv, hlt2, hbv⟩ := bits_tells k b hb hk
  obtain ⟨c, hc, hlt3, hbc⟩ := u64_andNot u v hlt hlt2
  rw [hu, hv]
  simp only [obind]
  rw [hc, from_tells k c hlt3 (by omega)]
  simp only [obind]
  exact congrArg some (sel_congr (fun n hn => by rw [hbc n hn, hbu n hn, hbv n hn]))
theorem either_tells (k : Nat) (a b : List Int) (ha : a.length ≤ 1000) (hb : b.length ≤ 1000) (hk : 1000 < k) : set_Either.f k a b = some (sel fun n => decide ((n : Int) ∈ a) || decide ((n : Int) ∈ b)) := by
  unfold set_Either.f
  obtain ⟨u, hu, hlt, hbu⟩ := bits_tells k a ha hk
  obtain ⟨v, hv, hlt2, hbv⟩ := bits_tells k b hb hk
  rw [hu, hv]
  simp only [obind]
  rw [u64_or u v hlt hlt2, from_tells k _ (Nat.or_lt_two_pow hlt hlt2) (by omega)]
  simp only [obind]
  exact congrArg some (sel_congr (fun n hn => by rw [Nat.testBit_or, hbu n hn, hbv n hn]))
end Go.Proofs.YtfomajippdcaoaaDoor.PSet
