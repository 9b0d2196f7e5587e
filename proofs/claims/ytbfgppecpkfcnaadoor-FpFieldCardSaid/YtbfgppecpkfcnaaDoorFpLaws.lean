/-
  The pure statements of the laws FpTells and FpPowers: what the printed functions answer is what the laws ask.
-/
import Derived.Test.YtbfgppecpkfcnaaDoorFpFacts
import Derived.Test.YtbfgppecpkfcnaaDoorPFpx5
import Derived.OpenShut
namespace Go.Proofs.YtbfgppecpkfcnaaDoor.PFp
open Go.RowKit Go.Proofs.YtbfgppecpkfcnaaDoorW.PrintWords Go.Proofs.YtbfgppecpkfcnaaDoorW.PrintLast Go.Proofs.YtbfgppecpkfcnaaDoorW.PrintMore Go.Proofs.YtbfgppecpkfcnaaDoor.Fq

theorem wf_u64 {a : Int} (h : (Lit.int .u64 a).wf = true) : ∃ n : Nat, a = n ∧ n < 18446744073709551616 := by
  have e := bounds_u64 h
  exact ⟨a.toNat, by omega, by omega⟩
theorem wf_u32 {a : Int} (h : (Lit.int .u32 a).wf = true) : ∃ n : Nat, a = n ∧ n < 4294967296 := by
  have e := bounds_u32 h
  exact ⟨a.toNat, by omega, by omega⟩

theorem sure_tells : caucuslaw01_sure.f 1000 = some true := by decide +kernel

theorem kk {x y : K} (h : x = y) : ((x.val : Nat) : Int) = ((y.val : Nat) : Int) := by rw [h]
theorem ne_self (x : Int) : (x != x) = false := by simp

theorem FpTells_j1 (a b : Nat) (h0 : b % PP = 0) : caucuslaw01_FpTells.j1 1001 (a : Int) (b : Int) 0 (some 1) false = some true := by
  simp only [caucuslaw01_FpTells.j1]
  rw [if_neg (by decide), if_pos (by rw [tmod_P]; omega), if_pos trivial]
  simp only [caucuslaw01_num.f, Option.getD_some, obind]
  rw [if_pos trivial, sure_tells]
  rfl
theorem FpTells_j1' (a b : Nat) (h0 : b % PP ≠ 0) : caucuslaw01_FpTells.j1 1001 (a : Int) (b : Int) (((c a * kinv (c b)).val : Nat) : Int) none false = some true := by
  simp only [caucuslaw01_FpTells.j1]
  rw [if_neg (by decide), if_neg (by rw [tmod_P]; omega), if_pos (show (none : Option Int).isNone = true from rfl), rinv_c _ _ (by decide)]
  simp only [obind]
  rw [rmul_c _ _ _ (by decide), c_of_val]
  simp only [obind]
  rw [if_pos trivial, sure_tells]
  rfl
theorem FpTells_j0 (a b : Nat) (d : Int) (f : Option Int) (h : caucuslaw01_FpTells.j1 1001 (a : Int) (b : Int) d f false = some true) (h0 : a % PP = 0) :
    caucuslaw01_FpTells.j0 1002 (a : Int) (b : Int) 0 (some 1) d f false = some true := by
  simp only [caucuslaw01_FpTells.j0]
  have hd : decide (Int.tmod (a : Int) 2305843009213693951 > 0) = false := by
    apply decide_eq_false
    rw [tmod_P]; omega
  rw [if_neg (by decide), rinv_c _ _ (by decide)]
  simp only [obind]
  rw [if_pos (by rw [c_eq_zero.2 h0, kinv_zero]; rfl), if_neg (by decide), hd, if_neg (by decide)]
  simp only [caucuslaw01_num.f, Option.getD_some, obind]
  exact h
theorem FpTells_j0' (a b : Nat) (d : Int) (f : Option Int) (h : caucuslaw01_FpTells.j1 1001 (a : Int) (b : Int) d f false = some true) (h0 : a % PP ≠ 0) :
    caucuslaw01_FpTells.j0 1002 (a : Int) (b : Int) (((kinv (c a)).val : Nat) : Int) none d f false = some true := by
  simp only [caucuslaw01_FpTells.j0]
  have hd : decide (Int.tmod (a : Int) 2305843009213693951 > 0) = true := by
    apply decide_eq_true
    rw [tmod_P]; omega
  rw [if_neg (by decide), rinv_c _ _ (by decide)]
  simp only [obind]
  rw [if_pos trivial, if_pos (show (none : Option Int).isNone = true from rfl), hd, if_neg (by decide)]
  exact h

theorem FpTells_f (a b : Nat) (ha : a < 18446744073709551616) (hb : b < 18446744073709551616) (i d : Int) (e f : Option Int)
    (hi : fp_Inv.f 1002 (a : Int) = some (i, e)) (hd : fp_Div.f 1002 (a : Int) (b : Int) = some (d, f))
    (h : caucuslaw01_FpTells.j0 1002 (a : Int) (b : Int) i e d f false = some true) : caucuslaw01_FpTells.f 1002 (a : Int) (b : Int) = some true := by
  unfold caucuslaw01_FpTells.f
  rw [hi, hd, add_c a b ha hb, radd_c, sub_c a b ha hb, rsub_c, mul_c a b ha hb, rmul_c _ a b (by decide), pow_c _ a b ha hb (by decide), rpow_c _ a b hb (by decide), of_tells a ha]
  simp only [obind]
  rw [if_pos (by rw [tmod_P]), if_pos trivial, if_pos trivial, if_pos trivial, ne_self]
  exact h

/-- FpTells. -/
theorem FpTells : caucuslaw01_FpTells.Pure := by
  intro a b ha' hb'
  obtain ⟨a, rfl, ha⟩ := wf_u64 ha'
  obtain ⟨b, rfl, hb⟩ := wf_u64 hb'
  refine ⟨1002, ?_⟩
  by_cases h1 : a % PP = 0 <;> by_cases h2 : b % PP = 0
  · exact FpTells_f a b ha hb _ _ _ _ (inv_zero _ a ha h1) (div_zero _ a b hb h2) (FpTells_j0 a b _ _ (FpTells_j1 a b h2) h1)
  · exact FpTells_f a b ha hb _ _ _ _ (inv_zero _ a ha h1) (div_tells _ a b ha hb h2 (by decide)) (FpTells_j0 a b _ _ (FpTells_j1' a b h2) h1)
  · exact FpTells_f a b ha hb _ _ _ _ (inv_tells _ a ha h1 (by decide)) (div_zero _ a b hb h2) (FpTells_j0' a b _ _ (FpTells_j1 a b h2) h1)
  · exact FpTells_f a b ha hb _ _ _ _ (inv_tells _ a ha h1 (by decide)) (div_tells _ a b ha hb h2 (by decide)) (FpTells_j0' a b _ _ (FpTells_j1' a b h2) h1)

/-- FpPowers. -/
theorem FpPowers : caucuslaw01_FpPowers.Pure := by
  intro a m n ha' hm' hn'
  obtain ⟨a, rfl, ha⟩ := wf_u64 ha'
  obtain ⟨m, rfl, hm⟩ := wf_u32 hm'
  obtain ⟨n, rfl, hn⟩ := wf_u32 hn'
  refine ⟨1000, ?_⟩
  have hmn := mul_bd hm hn
  unfold caucuslaw01_FpPowers.f
  rw [wu m (by omega), wu n (by omega), ← Int.natCast_add, ← Int.natCast_mul, wu (m + n) (by omega), wu (m * n) (by omega)]
  rw [pow_c _ a m ha (by omega) (by decide), pow_c _ a n ha (by omega) (by decide), pow_c _ a (m + n) ha (by omega) (by decide), pow_c _ a (m * n) ha (by omega) (by decide)]
  simp only [obind]
  have h1 := kval_lt (c a ^ m)
  have h2 := kval_lt (c a ^ n)
  rw [mul_c _ _ (by omega) (by omega), c_of_val, c_of_val]
  simp only [obind]
  rw [if_pos (kk (k_pow_add (c a) m n)), pow_c _ _ n (by omega) (by omega) (by decide), c_of_val]
  simp only [obind]
  rw [if_pos (kk (k_pow_mul (c a) m n))]
  rw [show (2305843009213693951 : Int) = ((PP : Nat) : Int) from rfl, pow_c _ a PP ha (by decide) (by decide), of_c a ha, pow_P]
  simp only [obind]
  rw [if_pos trivial, show (0 : Int) = ((0 : Nat) : Int) from rfl, pow_c _ a 0 ha (by decide) (by decide)]
  simp only [obind]
  rw [k_pow_zero, if_pos (show (((1 : K).val : Nat) : Int) = 1 from rfl), sure_tells]
  rfl

end Go.Proofs.YtbfgppecpkfcnaaDoor.PFp
