/-
  What the printed functions of vec and of its reference answer.
-/
import Derived.Test.YtbfgppecpkfcnaaDoorPVecx3
namespace Go.Proofs.YtbfgppecpkfcnaaDoor.PVec
open Go.RowKit Go.Proofs.YtbfgppecpkfcnaaDoorW.PrintWords Go.Proofs.YtbfgppecpkfcnaaDoorW.PrintLast Go.Proofs.YtbfgppecpkfcnaaDoorW.PrintMore

theorem obind {α β : Type} (a : α) (f : α → Option β) : (some a).bind f = f a := (Option.bind_some a f).trans (Eq.refl (f a))
theorem wrap64_in' (n : Int) (h : -9223372036854775808 ≤ n) (h1 : n ≤ 9223372036854775807) : wrap64 n = n := by unfold wrap64; omega
theorem lift {α : Type} {f : Nat → Option α} (h : ∀ k, LeO (f k) (f (k + 1))) {k k' : Nat} (hk : k ≤ k') {r : α} (e : f k = some r) : f k' = some r := by
  obtain ⟨d, rfl⟩ : ∃ d, k' = k + d := ⟨k' - k, by omega⟩
  induction d with
  | zero => exact e
  | succ d ih => exact h (k + d) r (ih (by omega))

theorem rd_at (l : List Int) (j : Nat) (h : j < l.length) : rd l (j : Int) = l[j] := by
  simp [rd, List.getElem?_eq_getElem h]
theorem rdL_at (l : List (List Int)) (j : Nat) (h : j < l.length) : rd_L1 l (j : Int) = l[j] := by
  simp [rd_L1, List.getElem?_eq_getElem h]

theorem drop_at {α : Type} (l : List α) (j : Nat) (h : j < l.length) : l.drop j = l[j] :: l.drop (j + 1) := List.drop_eq_getElem_cons h

theorem dec_eq {x y : Int} {l m : List Int} (e : x = y) : decide (x :: l = y :: m) = decide (l = m) := by subst e; simp
theorem dec_ne {x y : Int} {l m : List Int} (e : x ≠ y) : decide (x :: l = y :: m) = false := by
  apply decide_eq_false
  intro h
  exact e (List.cons.inj h).1

/-! ### the same? -/
theorem same_loop (d : Nat) : ∀ (k : Nat) (a b : List Int) (j : Nat), a.length = b.length → a.length ≤ j + d → j ≤ a.length → a.length ≤ 1000 → d < k →
    caucusref02_Same.l0 k a b (j : Int) = some (decide (a.drop j = b.drop j)) := by
  induction d with
  | zero =>
    intro k a b j hl hd hj _ hk
    obtain ⟨k, rfl⟩ : ∃ m, k = m + 1 := ⟨k - 1, by omega⟩
    simp only [caucusref02_Same.l0]
    rw [if_neg (by omega), List.drop_of_length_le (by omega), List.drop_of_length_le (by omega)]
    rfl
  | succ d ih =>
    intro k a b j hl hd hj hs hk
    obtain ⟨k, rfl⟩ : ∃ m, k = m + 1 := ⟨k - 1, by omega⟩
    by_cases hlt : j < a.length
    · simp only [caucusref02_Same.l0]
      rw [if_pos (by omega), if_pos (by omega), if_pos (by omega), rd_at a j hlt, rd_at b j (by omega), drop_at a j hlt, drop_at b j (by omega)]
      by_cases e : a[j] = b[j]'(by omega)
      · rw [if_pos e, wrap64_in' _ (by omega) (by omega)]
        have h := ih k a b (j + 1) hl (by omega) (by omega) hs (by omega)
        rw [show ((j : Int) + 1) = ((j + 1 : Nat) : Int) by omega, h, dec_eq e]
      · rw [if_neg e, dec_ne e]
    · simp only [caucusref02_Same.l0]
      rw [if_neg (by omega), List.drop_of_length_le (by omega), List.drop_of_length_le (by omega)]
      rfl
theorem same_tells (k : Nat) (a b : List Int) (ha : a.length ≤ 1000) (hk : 1000 < k) : caucusref02_Same.f k a b = some (decide (a = b)) := by
  unfold caucusref02_Same.f
  by_cases h : a.length = b.length
  · rw [if_pos (by omega)]
    exact same_loop a.length k a b 0 h (by omega) (by omega) ha (by omega)
  · rw [if_neg (by omega)]
    congr 1
    exact (decide_eq_false (fun e => h (by rw [e]))).symm

theorem equal_loop (d : Nat) : ∀ (k : Nat) (a b : List Int) (j : Nat), a.length = b.length → a.length ≤ j + d → j ≤ a.length → a.length ≤ 1000 → d < k →
    slices_Equal_uint32_uint32.l0 k a b (a.length : Int) (j : Int) = some (decide (a.drop j = b.drop j)) := by
  induction d with
  | zero =>
    intro k a b j hl hd hj _ hk
    obtain ⟨k, rfl⟩ : ∃ m, k = m + 1 := ⟨k - 1, by omega⟩
    simp only [slices_Equal_uint32_uint32.l0]
    rw [if_neg (by omega), List.drop_of_length_le (by omega), List.drop_of_length_le (by omega)]
    rfl
  | succ d ih =>
    intro k a b j hl hd hj hs hk
    obtain ⟨k, rfl⟩ : ∃ m, k = m + 1 := ⟨k - 1, by omega⟩
    by_cases hlt : j < a.length
    · simp only [slices_Equal_uint32_uint32.l0]
      rw [if_pos (by omega), if_pos (by omega), if_pos (by omega), if_pos (by omega), rd_at a j hlt, rd_at b j (by omega), drop_at a j hlt, drop_at b j (by omega)]
      by_cases e : a[j] = b[j]'(by omega)
      · rw [if_pos e, wrap64_in' _ (by omega) (by omega)]
        have h := ih k a b (j + 1) hl (by omega) (by omega) hs (by omega)
        rw [show ((j : Int) + 1) = ((j + 1 : Nat) : Int) by omega, h, dec_eq e]
      · rw [if_neg e, dec_ne e]
    · simp only [slices_Equal_uint32_uint32.l0]
      rw [if_neg (by omega), List.drop_of_length_le (by omega), List.drop_of_length_le (by omega)]
      rfl
theorem vsame_tells (k : Nat) (a b : List Int) (ha : a.length ≤ 1000) (hk : 1000 < k) : vec_Same.f k a b = some (decide (a = b)) := by
  have h : slices_Equal_uint32_uint32.f k a b = some (decide (a = b)) := by
    unfold slices_Equal_uint32_uint32.f
    by_cases h : a.length = b.length
    · rw [if_pos (by omega)]
      exact equal_loop a.length k a b 0 h (by omega) (by omega) ha (by omega)
    · rw [if_neg (by omega)]
      congr 1
      exact (decide_eq_false (fun e => h (by rw [e]))).symm
  unfold vec_Same.f
  rw [h]
  rfl

/-! ### sums, differences, products -/
theorem wrap_u64 (n : Int) : IntKind.u64.wrap n = n % 18446744073709551616 := by simp [IntKind.wrap, IntKind.bits, IntKind.signed]
def rop (m x y : Int) : Int := (x + m * y) % 4294967296
theorem rop_tells (m x y : Int) : Int.tmod (IntKind.u64.wrap ((IntKind.u64.wrap x) + (IntKind.u64.wrap (m * (IntKind.u64.wrap y))))) 4294967296 % 4294967296 = rop m x y := by
  simp only [wrap_u64, rop]
  rw [Int.tmod_eq_emod_of_nonneg (by omega), Int.emod_emod_of_dvd _ (by decide : (4294967296 : Int) ∣ 4294967296)]
  rw [Int.emod_emod_of_dvd _ (by decide : (4294967296 : Int) ∣ 18446744073709551616)]
  rw [Int.add_emod, Int.emod_emod_of_dvd x (by decide : (4294967296 : Int) ∣ 18446744073709551616), Int.emod_emod_of_dvd (m * (y % 18446744073709551616)) (by decide : (4294967296 : Int) ∣ 18446744073709551616)]
  rw [Int.mul_emod m (y % 18446744073709551616), Int.emod_emod_of_dvd y (by decide : (4294967296 : Int) ∣ 18446744073709551616), ← Int.mul_emod, ← Int.add_emod]

theorem radd_loop (d : Nat) : ∀ (k : Nat) (a b : List Int) (m : Int) (j : Nat), a.length = b.length → a.length ≤ 32 → a.length ≤ j + d → j ≤ a.length → d < k →
    caucusref02_Add.l0 k a b m ((List.zipWith (rop m) a b).take j) (j : Int) = some (List.zipWith (rop m) a b, true) := by
  induction d with
  | zero =>
    intro k a b m j hl h32 hd hj hk
    obtain ⟨k, rfl⟩ : ∃ m, k = m + 1 := ⟨k - 1, by omega⟩
    simp only [caucusref02_Add.l0]
    rw [if_neg (by omega), List.take_of_length_le (by rw [List.length_zipWith]; omega)]
  | succ d ih =>
    intro k a b m j hl h32 hd hj hk
    obtain ⟨k, rfl⟩ : ∃ m, k = m + 1 := ⟨k - 1, by omega⟩
    by_cases hlt : j < a.length
    · simp only [caucusref02_Add.l0]
      have hz := Bo.zip_len (rop m) a b j
      rw [if_pos (by omega), if_pos (by omega), if_pos (by omega), if_pos (by omega), rop_tells, Bo.zip_snoc (rop m) a b j hlt (by omega), wrap64_in' _ (by omega) (by omega)]
      exact ih k a b m (j + 1) hl h32 (by omega) (by omega) (by omega)
    · simp only [caucusref02_Add.l0]
      rw [if_neg (by omega), List.take_of_length_le (by rw [List.length_zipWith]; omega)]

theorem radd_ok (k : Nat) (a b : List Int) (m : Int) (h : a.length ≤ 32 ∧ a.length = b.length) (hk : 40 < k) : caucusref02_Add.f k a b m = some (List.zipWith (rop m) a b, true) := by
  obtain ⟨k, rfl⟩ : ∃ m, k = m + 1 := ⟨k - 1, by omega⟩
  unfold caucusref02_Add.f
  rw [if_neg (by omega)]
  simp only [caucusref02_Add.j0]
  rw [if_neg (by simp; omega)]
  exact radd_loop a.length k a b m 0 h.2 h.1 (by omega) (by omega) (by omega)
theorem radd_no (k : Nat) (a b : List Int) (m : Int) (h : ¬ (a.length ≤ 32 ∧ a.length = b.length)) (hk : 40 < k) : caucusref02_Add.f k a b m = some (([] : List Int), false) := by
  obtain ⟨k, rfl⟩ : ∃ m, k = m + 1 := ⟨k - 1, by omega⟩
  unfold caucusref02_Add.f
  by_cases h1 : (a.length : Int) > 32
  · rw [if_pos h1]
    simp only [caucusref02_Add.j0]
    rw [if_pos trivial]
  · rw [if_neg h1]
    simp only [caucusref02_Add.j0]
    rw [if_pos (by simp; omega)]

theorem rop_add (x y : Int) : rop 1 x y = Bo.op_add x y := by
  unfold rop Bo.op_add
  rw [Int.one_mul]
theorem rop_add' : rop 1 = Bo.op_add := by
  funext x y
  exact rop_add x y

/-! ### sums of rows -/
/-- the sum of rows, on top of a row -/
def sumL (o : List Int) : List (List Int) → Option (List Int)
  | [] => some o
  | a :: l => if o.length ≤ 32 ∧ o.length = a.length then sumL (List.zipWith Bo.op_add o a) l else none

def vout : Option (List Int) → List Int × Option Int
  | some r => (r, none)
  | none => ([], some 1)
def rout : Option (List Int) → List Int × Bool
  | some r => (r, true)
  | none => ([], false)

theorem vsum_loop (d : Nat) : ∀ (k : Nat) (o : List Int) (l : List (List Int)) (j : Nat), l.length ≤ j + d → j ≤ l.length → l.length ≤ 1000 → d < k →
    vec_Sum.l0 k o l (l.length : Int) (j : Int) = some (vout (sumL o (l.drop j))) := by
  induction d with
  | zero =>
    intro k o l j hd hj _ hk
    obtain ⟨k, rfl⟩ : ∃ m, k = m + 1 := ⟨k - 1, by omega⟩
    simp only [vec_Sum.l0]
    rw [if_neg (by omega), List.drop_of_length_le (by omega)]
    rfl
  | succ d ih =>
    intro k o l j hd hj hs hk
    obtain ⟨k, rfl⟩ : ∃ m, k = m + 1 := ⟨k - 1, by omega⟩
    by_cases hlt : j < l.length
    · simp only [vec_Sum.l0]
      rw [if_pos (by omega), if_pos (by omega), if_pos (by omega), rdL_at l j hlt, drop_at l j hlt]
      simp only [sumL]
      unfold vec_Add.f
      by_cases h : o.length ≤ 32 ∧ o.length = (l[j]).length
      · rw [if_pos h, if_pos h]
        simp only [obind]
        rw [if_pos (show (none : Option Int).isNone = true from rfl), wrap64_in' _ (by omega) (by omega)]
        exact ih k _ l (j + 1) (by omega) (by omega) hs (by omega)
      · rw [if_neg h, if_neg h]
        simp only [obind]
        rw [if_neg (by simp)]
        rfl
    · simp only [vec_Sum.l0]
      rw [if_neg (by omega), List.drop_of_length_le (by omega)]
      rfl

theorem rsum_loop (d : Nat) : ∀ (k : Nat) (o : List Int) (l : List (List Int)) (j : Nat), l.length ≤ j + d → j ≤ l.length → l.length ≤ 1000 → d + 50 < k →
    caucusref02_Sum.l0 k l o (j : Int) = some (rout (sumL o (l.drop j))) := by
  induction d with
  | zero =>
    intro k o l j hd hj _ hk
    obtain ⟨k, rfl⟩ : ∃ m, k = m + 1 := ⟨k - 1, by omega⟩
    simp only [caucusref02_Sum.l0]
    rw [if_neg (by omega), List.drop_of_length_le (by omega)]
    rfl
  | succ d ih =>
    intro k o l j hd hj hs hk
    obtain ⟨k, rfl⟩ : ∃ m, k = m + 1 := ⟨k - 1, by omega⟩
    by_cases hlt : j < l.length
    · simp only [caucusref02_Sum.l0]
      rw [if_pos (by omega), if_pos (by omega), rdL_at l j hlt, drop_at l j hlt]
      simp only [sumL]
      by_cases h : o.length ≤ 32 ∧ o.length = (l[j]).length
      · rw [radd_ok k _ _ _ h (by omega), if_pos h]
        simp only [obind]
        rw [if_pos trivial, wrap64_in' _ (by omega) (by omega), rop_add']
        exact ih k _ l (j + 1) (by omega) (by omega) hs (by omega)
      · rw [radd_no k _ _ _ h (by omega), if_neg h]
        simp only [obind]
        rw [if_neg (by decide)]
        rfl
    · simp only [caucusref02_Sum.l0]
      rw [if_neg (by omega), List.drop_of_length_le (by omega)]
      rfl

/-- the sum of rows of n numbers, or the error -/
def sumN (l : List (List Int)) (n : Int) : Option (List Int) := if 0 ≤ n ∧ n ≤ 32 then sumL (List.replicate n.toNat 0) l else none

theorem zero_tells (n : Int) : vec_Zero.f n = some (if 0 ≤ n ∧ n ≤ 32 then (List.replicate n.toNat 0, none) else (([] : List Int), some 1)) := by
  unfold vec_Zero.f
  by_cases h1 : n < 0
  · rw [if_pos h1, if_neg (by omega)]
  · rw [if_neg h1]
    by_cases h2 : n > 32
    · rw [if_pos h2, if_neg (by omega)]
    · rw [if_neg h2, if_pos (by omega), if_pos (by omega), if_pos (by omega)]

theorem vsum_tells (k : Nat) (l : List (List Int)) (n : Int) (hl : l.length ≤ 1000) (hk : 1000 < k) : vec_Sum.f k l n = some (vout (sumN l n)) := by
  unfold vec_Sum.f sumN
  rw [zero_tells]
  simp only [obind]
  by_cases h : 0 ≤ n ∧ n ≤ 32
  · rw [if_pos h, if_pos h, if_pos (show (none : Option Int).isNone = true from rfl)]
    exact vsum_loop l.length k _ l 0 (by omega) (by omega) hl (by omega)
  · rw [if_neg h, if_neg h, if_neg (by simp)]
    rfl
theorem rsum_tells (k : Nat) (l : List (List Int)) (n : Int) (hl : l.length ≤ 1000) (hk : 1100 < k) : caucusref02_Sum.f k l n = some (rout (sumN l n)) := by
  obtain ⟨k, rfl⟩ : ∃ m, k = m + 1 := ⟨k - 1, by omega⟩
  unfold caucusref02_Sum.f sumN
  by_cases h1 : n < 0
  · rw [if_pos h1, if_neg (by omega)]
    simp only [caucusref02_Sum.j0]
    rw [if_pos trivial]
    rfl
  · rw [if_neg h1]
    by_cases h2 : n > 32
    · rw [decide_eq_true h2, if_neg (by omega)]
      simp only [caucusref02_Sum.j0]
      rw [if_pos trivial]
      rfl
    · rw [decide_eq_false h2, if_pos (by omega)]
      simp only [caucusref02_Sum.j0]
      rw [if_neg (by decide), if_pos (by omega), if_pos (by omega)]
      exact rsum_loop l.length k _ l 0 (by omega) (by omega) hl (by omega)

theorem sumL_len (l : List (List Int)) : ∀ (o r : List Int), sumL o l = some r → r.length = o.length := by
  induction l with
  | nil =>
    intro o r h
    simp only [sumL, Option.some.injEq] at h
    rw [h]
  | cons a l ih =>
    intro o r h
    simp only [sumL] at h
    by_cases hc : o.length ≤ 32 ∧ o.length = a.length
    · rw [if_pos hc] at h
      have := ih _ _ h
      rw [List.length_zipWith] at this
      omega
    · rw [if_neg hc] at h
      cases h
theorem sumN_len (l : List (List Int)) (n : Int) (r : List Int) (h : sumN l n = some r) : r.length ≤ 32 := by
  unfold sumN at h
  by_cases hc : 0 ≤ n ∧ n ≤ 32
  · rw [if_pos hc] at h
    have := sumL_len l _ _ h
    rw [List.length_replicate] at this
    omega
  · rw [if_neg hc] at h
    cases h

theorem sure_tells : caucuslaw02_sure.f 1200 = some true := by decide +kernel

theorem vec_end (k : Nat) (l : List (List Int)) (n : Int) (hl : l.length ≤ 1000) (hk : 1300 < k) :
    ((vec_Sum.f k l n).bind fun bt218 => ((caucusref02_Sum.f k l n).bind fun bt222 => ((caucusref02_Same.f k bt218.1 bt222.1).bind fun t226 => (if t226 = true then (if bt218.2.isNone = true then (if (true == bt222.2) = true then (if bt222.2 = true then ((caucuslaw02_sure.f k).bind fun t228 => (some t228)) else ((caucuslaw02_num.f none).bind fun t229 => (if t229 = 1 then ((caucuslaw02_sure.f k).bind fun t230 => (some t230)) else (some false)))) else (some false)) else (if (false == bt222.2) = true then (if bt222.2 = true then ((caucuslaw02_sure.f k).bind fun t231 => (some t231)) else ((caucuslaw02_num.f (some (bt218.2.getD 0))).bind fun t232 => (if t232 = 1 then ((caucuslaw02_sure.f k).bind fun t233 => (some t233)) else (some false)))) else (some false))) else (some false))))) = some true := by
  have hs : caucuslaw02_sure.f k = some true := lift (fun k => caucuslaw02_sure.mono k) (by omega) sure_tells
  rw [vsum_tells k l n hl (by omega), rsum_tells k l n hl (by omega)]
  simp only [obind]
  cases h : sumN l n with
  | none =>
    simp only [vout, rout]
    rw [same_tells k _ _ (by simp) (by omega)]
    simp only [obind, caucuslaw02_num.f, hs]
    simp
  | some r =>
    have hr := sumN_len l n r h
    simp only [vout, rout]
    rw [same_tells k _ _ (by omega) (by omega)]
    simp only [obind, hs]
    simp

theorem vec_loop (d : Nat) : ∀ (k : Nat) (l : List (List Int)) (n : Int) (j : Nat), l.length ≤ j + d → j ≤ l.length → l.length ≤ 60 → d + 1400 < k →
    caucuslaw02_VecSums.l0 k l n (j : Int) = some true := by
  induction d with
  | zero =>
    intro k l n j hd hj hl hk
    obtain ⟨k, rfl⟩ : ∃ m, k = m + 1 := ⟨k - 1, by omega⟩
    simp only [caucuslaw02_VecSums.l0]
    rw [if_neg (by omega)]
    exact vec_end k l n (by omega) (by omega)
  | succ d ih =>
    intro k l n j hd hj hl hk
    obtain ⟨k, rfl⟩ : ∃ m, k = m + 1 := ⟨k - 1, by omega⟩
    have hs : caucuslaw02_sure.f k = some true := lift (fun k => caucuslaw02_sure.mono k) (by omega) sure_tells
    by_cases hlt : j < l.length
    · simp only [caucuslaw02_VecSums.l0]
      rw [if_pos (by omega), if_pos (by omega)]
      split
      · rw [hs]; rfl
      · rw [wrap64_in' _ (by omega) (by omega)]
        exact ih k l n (j + 1) (by omega) (by omega) hl (by omega)
    · simp only [caucuslaw02_VecSums.l0]
      rw [if_neg (by omega)]
      exact vec_end k l n (by omega) (by omega)

/-- VecSums. -/
theorem VecSums (l : List (List Int)) (n : Int) : caucuslaw02_VecSums.f 1500 l n = some true := by
  have hs : caucuslaw02_sure.f 1500 = some true := lift (fun k => caucuslaw02_sure.mono k) (by omega) sure_tells
  unfold caucuslaw02_VecSums.f
  by_cases h : (l.length : Int) > 60
  · rw [if_pos h, hs]; rfl
  · rw [if_neg h]
    exact vec_loop l.length 1500 l n 0 (by omega) (by omega) (by omega) (by omega)

theorem VecSums_walk (_ : True) (a0 : Option Addr) (cap0 : Nat) (l0 : List (List Int)) (a1 : Int) (w : World) (hG : As.LaidG w) (C0 : (Kd.slice 34 (Kd.int .u32)).C w a0 l0.length l0) (D0 : l0.length ≤ cap0) (_ : (Lit.int .i64 a1).wf = true) :
    Calls Tryd.prog 7 #[.slice a0 l0.length cap0, .int .i64 a1] w fun e w' => e = .returned (.bool true) ∧ Below w.heap.size w w' :=
  caucuslaw02_VecSums.calls 1500 a0 cap0 l0 a1 true w hG rfl C0 D0 (VecSums l0 a1)
end Go.Proofs.YtbfgppecpkfcnaaDoor.PVec
