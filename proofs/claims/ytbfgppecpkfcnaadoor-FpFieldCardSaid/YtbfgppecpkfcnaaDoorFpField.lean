/-
  The pure statement of the law FpField: the printed functions' numbers are a field.
-/
import Derived.Test.YtbfgppecpkfcnaaDoorFpLaws
import Derived.Test.YtbfgppecpkfcnaaDoorPFpx4
namespace Go.Proofs.YtbfgppecpkfcnaaDoor.PFp
open Go.RowKit Go.Proofs.YtbfgppecpkfcnaaDoorW.PrintWords Go.Proofs.YtbfgppecpkfcnaaDoorW.PrintLast Go.Proofs.YtbfgppecpkfcnaaDoorW.PrintMore Go.Proofs.YtbfgppecpkfcnaaDoor.Fq

theorem kval_eq (x y : K) : (((x.val : Nat) : Int) = ((y.val : Nat) : Int)) = (x = y) := by
  apply propext
  constructor
  · intro h
    apply Fin.ext
    omega
  · intro h
    rw [h]

theorem k_one : ((1 : K).val : Int) = 1 := rfl
theorem k_zero : ((0 : K).val : Int) = 0 := rfl

/-- how the last part ends -/
theorem FpField_end (a b : Nat) (ha : a < 18446744073709551616) (hb : b < 18446744073709551616) :
    ((fp_Add.f (a : Int) (b : Int)).bind fun t => (if t < 2305843009213693951 then ((fp_Mul.f (a : Int) (b : Int)).bind fun u => (if u < 2305843009213693951 then ((caucuslaw01_sure.f 1000).bind fun v => (some v)) else (some false))) else (some false))) = some true := by
  have h1 := kval_lt (c a + c b)
  have h2 := kval_lt (c a * c b)
  rw [add_c a b ha hb, mul_c a b ha hb]
  simp only [obind]
  rw [if_pos (by omega), if_pos (by omega), sure_tells]
  rfl

theorem FpField_j1 (a b : Nat) (ha : a < 18446744073709551616) (hb : b < 18446744073709551616) (q : Int) (f : Option Int)
    (hq : f = none → ∃ y : K, q = (y.val : Int) ∧ y * c b = c a) : caucuslaw01_FpField.j1 1001 (a : Int) (b : Int) ((c a).val : Int) q f false = some true := by
  have hend := FpField_end a b ha hb
  have hx := kval_lt (c a)
  simp only [caucuslaw01_FpField.j1]
  rw [if_neg (by decide)]
  by_cases h0 : a % PP = 0
  · have hz : c a = 0 := c_eq_zero.2 h0
    rw [inv_zero _ a ha h0]
    simp only [obind]
    have hb0 : ((c a).val : Int) = 0 := by rw [hz]; rfl
    cases f with
    | none =>
      obtain ⟨y, rfl, hy⟩ := hq rfl
      have h1 := kval_lt y
      rw [if_pos (show (none : Option Int).isNone = true from rfl), mul_c _ _ (by omega) hb, c_of_val, hy]
      simp only [obind]
      rw [if_pos trivial, if_neg (by decide), hb0, if_pos (by decide)]
      exact hend
    | some f =>
      rw [if_neg (show ¬ (some f).isNone = true by simp), if_neg (by decide), hb0, if_pos (by decide)]
      exact hend
  · have hnz : ((c a).val : Int) ≠ 0 := by
      rw [c_val]; omega
    have hc : c a ≠ 0 := fun e => h0 (c_eq_zero.1 e)
    have hki := kval_lt (kinv (c a))
    have hf : (((c a).val : Int) == 0) = false := beq_eq_false_iff_ne.mpr hnz
    rw [inv_tells _ a ha h0 (by decide), hf]
    simp only [obind]
    have hm : fp_Mul.f ((kinv (c a)).val : Int) (a : Int) = some 1 := by
      rw [mul_c _ _ (by omega) ha, c_of_val, kinv_mul _ hc, k_one]
    cases f with
    | none =>
      obtain ⟨y, rfl, hy⟩ := hq rfl
      have h1 := kval_lt y
      rw [if_pos (show (none : Option Int).isNone = true from rfl), mul_c _ _ (by omega) hb, c_of_val, hy, hm]
      simp only [obind]
      rw [if_pos trivial, if_pos (show (none : Option Int).isNone = true from rfl), if_pos (by decide), if_pos trivial]
      exact hend
    | some f =>
      rw [if_neg (show ¬ (some f).isNone = true by simp), if_pos (show (none : Option Int).isNone = true from rfl), if_pos (by decide), hm]
      simp only [obind]
      rw [if_pos trivial]
      exact hend

theorem kf1 (a b d : K) : a * (b + d) = a * b + a * d := by grind
theorem kf2 (a b : K) : a - b + b = a := by grind
theorem kf3 (a b : K) : a + b - b = a := by grind
theorem kf4 (a : K) : a * 1 = a := by grind
theorem kf5 (a b : K) : a + b = b + a := by grind
theorem kf6 (a b : K) : a * b = b * a := by grind
theorem kf7 (a b d : K) : a + b + d = a + (b + d) := by grind
theorem kf8 (a b d : K) : a * b * d = a * (b * d) := by grind

theorem FpField_j0 (a b d : Nat) (ha : a < 18446744073709551616) (hb : b < 18446744073709551616) (hd : d < 18446744073709551616) (q : Int) (f : Option Int)
    (hq : f = none → ∃ y : K, q = (y.val : Int) ∧ y * c b = c a) : caucuslaw01_FpField.j0 1002 (a : Int) (b : Int) (d : Int) ((c a).val : Int) q f false = some true := by
  have hj := FpField_j1 a b ha hb q f hq
  have h1 := kval_lt (c b + c d)
  have h2 := kval_lt (c a * c b)
  have h3 := kval_lt (c a * c d)
  have h4 := kval_lt (c a - c b)
  have h5 := kval_lt (c a + c b)
  simp only [caucuslaw01_FpField.j0]
  rw [if_neg (by decide), add_c b d hb hd]
  simp only [obind]
  rw [mul_c a _ ha (by omega), mul_c a b ha hb, mul_c a d ha hd, c_of_val]
  simp only [obind]
  rw [add_c _ _ (by omega) (by omega), c_of_val, c_of_val]
  simp only [obind]
  rw [if_pos (kk (kf1 _ _ _)), sub_c a b ha hb]
  simp only [obind]
  rw [add_c _ _ (by omega) hb, c_of_val, kf2]
  simp only [obind]
  rw [if_pos trivial, add_c a b ha hb]
  simp only [obind]
  rw [sub_c _ _ (by omega) hb, c_of_val, kf3]
  simp only [obind]
  rw [if_pos trivial, show (0 : Int) = ((0 : Nat) : Int) from rfl, add_c a 0 ha (by decide), c_zero, k_add_zero]
  simp only [obind]
  rw [if_pos trivial, show (1 : Int) = ((1 : Nat) : Int) from rfl, mul_c a 1 ha (by decide), c_one, kf4]
  simp only [obind]
  rw [if_pos trivial, mul_c a 0 ha (by decide), c_zero, k_mul_zero]
  simp only [obind]
  rw [show ((((0 : K).val : Nat) : Int) != ((0 : Nat) : Int)) = false from rfl]
  exact hj

/-- FpField. -/
theorem FpField : caucuslaw01_FpField.Pure := by
  intro a b d ha' hb' hd'
  obtain ⟨a, rfl, ha⟩ := wf_u64 ha'
  obtain ⟨b, rfl, hb⟩ := wf_u64 hb'
  obtain ⟨d, rfl, hd⟩ := wf_u64 hd'
  refine ⟨1002, ?_⟩
  obtain ⟨q, f, hdiv, hq⟩ : ∃ q f, fp_Div.f 1002 (a : Int) (b : Int) = some (q, f) ∧ (f = none → ∃ y : K, q = (y.val : Int) ∧ y * c b = c a) := by
    by_cases h0 : b % PP = 0
    · exact ⟨0, some 1, div_zero _ a b hb h0, fun h => by cases h⟩
    · refine ⟨_, none, div_tells _ a b ha hb h0 (by decide), fun _ => ⟨_, rfl, ?_⟩⟩
      have := kinv_mul (c b) (fun e => h0 (c_eq_zero.1 e))
      rw [kf8, this, kf4]
  have hj := FpField_j0 a b d ha hb hd q f hq
  have h1 := kval_lt (c a + c b)
  have h2 := kval_lt (c b + c d)
  have h3 := kval_lt (c a * c b)
  have h4 := kval_lt (c b * c d)
  unfold caucuslaw01_FpField.f
  rw [of_c a ha, hdiv, add_c a b ha hb, add_c b a hb ha, mul_c a b ha hb, mul_c b a hb ha, add_c b d hb hd, mul_c b d hb hd]
  simp only [obind]
  rw [if_pos (kk (kf5 _ _)), if_pos (kk (kf6 _ _)), add_c _ d (by omega) hd, c_of_val, add_c a _ ha (by omega), c_of_val]
  simp only [obind]
  rw [if_pos (kk (kf7 _ _ _)), mul_c _ d (by omega) hd, c_of_val, mul_c a _ ha (by omega), c_of_val]
  simp only [obind]
  rw [kf8, ne_self]
  exact hj
end Go.Proofs.YtbfgppecpkfcnaaDoor.PFp
