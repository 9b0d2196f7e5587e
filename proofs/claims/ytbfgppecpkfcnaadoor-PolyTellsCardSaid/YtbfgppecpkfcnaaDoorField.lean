/- The field of numbers below 2^61 - 1: a prime (Pocklington), Fermat's little theorem, curves over the field. Plain Lean: no program in sight. -/

namespace Go.Proofs.YtbfgppecpkfcnaaDoor.Fq

abbrev P : Nat := 2305843009213693951

/-! ## Binomials -/
def ch : Nat → Nat → Nat
  | _, 0 => 1
  | 0, _ + 1 => 0
  | n + 1, k + 1 => ch n k + ch n (k + 1)

theorem ch_zero (n : Nat) : ch n 0 = 1 := by cases n <;> rfl

theorem ch_big (n : Nat) : ∀ k, n < k → ch n k = 0 := by
  induction n with
  | zero => intro k h; obtain ⟨j, rfl⟩ : ∃ j, k = j + 1 := ⟨k - 1, by omega⟩; rfl
  | succ n ih =>
    intro k h
    obtain ⟨j, rfl⟩ : ∃ j, k = j + 1 := ⟨k - 1, by omega⟩
    simp only [ch]
    rw [ih j (by omega), ih (j + 1) (by omega)]

theorem ch_self (n : Nat) : ch n n = 1 := by
  induction n with
  | zero => rfl
  | succ n ih => simp only [ch]; rw [ih, ch_big n (n + 1) (by omega)]

theorem ch_mul (n : Nat) : ∀ k, (k + 1) * ch (n + 1) (k + 1) = (n + 1) * ch n k := by
  induction n with
  | zero =>
    intro k
    cases k with
    | zero => rfl
    | succ k => simp only [ch]; simp
  | succ n ih =>
    intro k
    cases k with
    | zero =>
      have h := ih 0
      simp only [ch] at *
      simp at *
      omega
    | succ k =>
      have h1 := ih k
      have h2 := ih (k + 1)
      have e1 : ch (n + 1 + 1) (k + 1 + 1) = ch (n + 1) (k + 1) + ch (n + 1) (k + 1 + 1) := rfl
      have e2 : ch (n + 1) (k + 1) = ch n k + ch n (k + 1) := rfl
      rw [e1, Nat.mul_add, h2]
      have e3 : (k + 1 + 1) * ch (n + 1) (k + 1) = (k + 1) * ch (n + 1) (k + 1) + ch (n + 1) (k + 1) := by
        rw [Nat.add_mul (k + 1) 1]; simp
      rw [e3, h1, e2]
      have : (n + 1 + 1) * (ch n k + ch n (k + 1)) = (n + 1) * ch n k + (n + 1) * ch n (k + 1) + (ch n k + ch n (k + 1)) := by
        rw [Nat.add_mul (n + 1) 1, Nat.mul_add]; simp
      rw [this]; omega

/-- the first m members of (a + 1)^n -/
def sm (a n : Nat) : Nat → Nat
  | 0 => 0
  | m + 1 => sm a n m + ch n m * a ^ m

theorem sm_step (a n m : Nat) : sm a (n + 1) (m + 1) = a * sm a n m + sm a n (m + 1) := by
  induction m with
  | zero => simp [sm, ch_zero]
  | succ m ih =>
    have e : sm a (n + 1) (m + 1 + 1) = sm a (n + 1) (m + 1) + ch (n + 1) (m + 1) * a ^ (m + 1) := rfl
    rw [e, ih]
    have e1 : sm a n (m + 1 + 1) = sm a n (m + 1) + ch n (m + 1) * a ^ (m + 1) := rfl
    have e2 : sm a n (m + 1) = sm a n m + ch n m * a ^ m := rfl
    have e3 : ch (n + 1) (m + 1) = ch n m + ch n (m + 1) := rfl
    rw [e1, e3]
    have e4 : a * sm a n (m + 1) = a * sm a n m + ch n m * a ^ (m + 1) := by
      rw [e2, Nat.mul_add, Nat.pow_succ]
      have : a * (ch n m * a ^ m) = ch n m * (a ^ m * a) := by
        rw [Nat.mul_comm a, Nat.mul_assoc]
      rw [this]
    rw [e4, Nat.add_mul]; omega

theorem sm_all (a n : Nat) : sm a n (n + 1) = (a + 1) ^ n := by
  induction n with
  | zero => simp [sm, ch]
  | succ n ih =>
    rw [sm_step, ih]
    have : sm a n (n + 1 + 1) = sm a n (n + 1) + ch n (n + 1) * a ^ (n + 1) := rfl
    rw [this, ch_big n (n + 1) (by omega), ih, Nat.pow_succ (a + 1) n, Nat.mul_add, Nat.mul_comm, Nat.zero_mul]; omega

/-! ## Primes -/
def Prm (p : Nat) : Prop := 1 < p ∧ ∀ a b, p ∣ a * b → p ∣ a ∨ p ∣ b

theorem Prm.ch_dvd {p : Nat} (hp : Prm p) (k : Nat) (h0 : 0 < k) (h1 : k < p) : p ∣ ch p k := by
  obtain ⟨q, rfl⟩ : ∃ q, p = q + 1 := ⟨p - 1, by have := hp.1; omega⟩
  obtain ⟨j, rfl⟩ : ∃ j, k = j + 1 := ⟨k - 1, by omega⟩
  have h := ch_mul q j
  have hd : (q + 1) ∣ (j + 1) * ch (q + 1) (j + 1) := ⟨_, h⟩
  rcases hp.2 _ _ hd with h | h
  · exact absurd (Nat.le_of_dvd (by omega) h) (by omega)
  · exact h

theorem Prm.sm_mod {p : Nat} (hp : Prm p) (a : Nat) : ∀ m, m < p → sm a p (m + 1) % p = 1 := by
  intro m
  induction m with
  | zero => intro _; simp [sm, ch_zero]; exact Nat.mod_eq_of_lt hp.1
  | succ m ih =>
    intro h
    have e : sm a p (m + 1 + 1) = sm a p (m + 1) + ch p (m + 1) * a ^ (m + 1) := rfl
    obtain ⟨c, hc⟩ := hp.ch_dvd (m + 1) (by omega) h
    rw [e, hc, Nat.mul_assoc, Nat.add_mul_mod_self_left]
    exact ih (by omega)

theorem Prm.frob {p : Nat} (hp : Prm p) (a : Nat) : (a + 1) ^ p % p = (a ^ p + 1) % p := by
  obtain ⟨q, rfl⟩ : ∃ q, p = q + 1 := ⟨p - 1, by have := hp.1; omega⟩
  have h := hp.sm_mod a q (by omega)
  rw [← sm_all]
  have e : sm a (q + 1) (q + 1 + 1) = sm a (q + 1) (q + 1) + ch (q + 1) (q + 1) * a ^ (q + 1) := rfl
  rw [e, ch_self, Nat.one_mul, Nat.add_mod, h, Nat.add_mod (a ^ (q + 1)) 1, Nat.mod_eq_of_lt hp.1, Nat.add_comm]

theorem Prm.fermat {p : Nat} (hp : Prm p) (a : Nat) : a ^ p % p = a % p := by
  induction a with
  | zero => rw [Nat.zero_pow (by have := hp.1; omega)]
  | succ a ih => rw [hp.frob, Nat.add_mod, ih, ← Nat.add_mod]

theorem Prm.little {p : Nat} (hp : Prm p) (a : Nat) (h : a % p ≠ 0) : a ^ (p - 1) % p = 1 := by
  have hf := hp.fermat a
  obtain ⟨q, rfl⟩ : ∃ q, p = q + 1 := ⟨p - 1, by have := hp.1; omega⟩
  have h1 : 1 ≤ a ^ q := Nat.pow_pos (by cases a with | zero => simp at h | succ a => omega)
  have hd : (q + 1) ∣ a * (a ^ q - 1) := by
    have e : a * (a ^ q - 1) = a ^ (q + 1) - a := by
      rw [Nat.mul_sub, Nat.pow_succ, Nat.mul_comm]; simp
    rw [e]
    exact Nat.dvd_of_mod_eq_zero (Nat.sub_mod_eq_zero_of_mod_eq hf)
  rcases hp.2 _ _ hd with h2 | h2
  · exact absurd (Nat.mod_eq_zero_of_dvd h2) h
  · have : a ^ q = (a ^ q - 1) + 1 := by omega
    obtain ⟨c, hc⟩ := h2
    simp only [Nat.add_sub_cancel]
    rw [this, hc, Nat.mul_add_mod_self_left]
    exact Nat.mod_eq_of_lt hp.1

end Go.Proofs.YtbfgppecpkfcnaaDoor.Fq
namespace Go.Proofs.YtbfgppecpkfcnaaDoor.Fq

/-! ## The order of a number -/
theorem pow_mod_one {b r : Nat} (hr : 1 < r) (h : b % r = 1) (n : Nat) : b ^ n % r = 1 := by
  rw [Nat.pow_mod, h, Nat.one_pow, Nat.mod_eq_of_lt hr]

theorem ord_gcd {b r : Nat} (hr : 1 < r) (m n : Nat) : b ^ m % r = 1 → b ^ n % r = 1 → b ^ (Nat.gcd m n) % r = 1 := by
  induction m, n using Nat.gcd.induction with
  | H0 n => intro _ h; simpa using h
  | H1 m n hm ih =>
    intro h1 h2
    rw [Nat.gcd_rec]
    apply ih _ h1
    have e : b ^ n = (b ^ m) ^ (n / m) * b ^ (n % m) := by
      rw [← Nat.pow_mul, ← Nat.pow_add, Nat.div_add_mod]
    rw [e, Nat.mul_mod, pow_mod_one hr h1, Nat.one_mul, Nat.mod_mod] at h2
    exact h2

/-- powers by squaring, for the kernel -/
def pm (a : Nat) : Nat → Nat → Nat
  | 0, _ => 1
  | f + 1, n => (pm a f (n / 2)) ^ 2 % P * a ^ (n % 2) % P

theorem pm_eq (a : Nat) : ∀ f n, n < 2 ^ f → pm a f n = a ^ n % P := by
  intro f
  induction f with
  | zero => intro n h; have : n = 0 := by simpa using h
            subst this; rfl
  | succ f ih =>
    intro n h
    have h' : n / 2 < 2 ^ f := by rw [Nat.pow_succ] at h; omega
    simp only [pm]
    rw [ih _ h', ← Nat.pow_mod, ← Nat.pow_mul]
    rw [Nat.mul_mod, Nat.mod_mod, ← Nat.mul_mod, ← Nat.pow_add]
    congr 2
    omega

/-! ## The least divisor above 1 -/
theorem least (n : Nat) (h : 1 < n) : ∃ r, 1 < r ∧ r ∣ n ∧ ∀ m, 1 < m → m ∣ n → r ≤ m := by
  have key : ∀ d, ∀ k, n ≤ k + d → 1 < k → (∀ m, 1 < m → m ∣ n → k ≤ m) → ∃ r, 1 < r ∧ r ∣ n ∧ ∀ m, 1 < m → m ∣ n → r ≤ m := by
    intro d
    induction d with
    | zero =>
      intro k hk h1 hl
      exact ⟨n, h, Nat.dvd_refl n, fun m hm hd => by have := hl m hm hd; omega⟩
    | succ d ih =>
      intro k hk h1 hl
      by_cases hd : k ∣ n
      · exact ⟨k, h1, hd, hl⟩
      · refine ih (k + 1) (by omega) (by omega) (fun m hm hmd => ?_)
        have := hl m hm hmd
        by_cases e : m = k
        · subst e; exact absurd hmd hd
        · omega
  exact key n 2 (by omega) (by omega) (fun m hm _ => by omega)

theorem least_prm {n r : Nat} (h1 : 1 < r) (hd : r ∣ n) (hl : ∀ m, 1 < m → m ∣ n → r ≤ m) : Prm r := by
  refine ⟨h1, fun a b hab => ?_⟩
  by_cases ha : r ∣ a
  · exact Or.inl ha
  · right
    have hg : Nat.gcd r a = 1 := by
      have hgd : Nat.gcd r a ∣ r := Nat.gcd_dvd_left r a
      have hga : Nat.gcd r a ∣ a := Nat.gcd_dvd_right r a
      have hpos : 0 < Nat.gcd r a := Nat.gcd_pos_of_pos_left _ (by omega)
      by_cases e : 1 < Nat.gcd r a
      · have hle := hl _ e (Nat.dvd_trans hgd hd)
        have hle2 : Nat.gcd r a ≤ r := Nat.le_of_dvd (by omega) hgd
        have : Nat.gcd r a = r := by omega
        rw [this] at hga; exact absurd hga ha
      · omega
    exact Nat.Coprime.dvd_of_dvd_mul_left hg hab

/-! ## 2^61 - 1 is a prime (Pocklington's way: all prime divisors of it are 1 above a multiple of 1321 · 331 · 151 · 61) -/
theorem small_dvd {q s : Nat} (hs : q < s * s) (hq : ∀ g, g < s → q % g = 0 → g = 1) (g : Nat) (hg : g ∣ q) (hq0 : 0 < q) : g = 1 ∨ g = q := by
  obtain ⟨h, rfl⟩ := hg
  by_cases e : g < s
  · exact Or.inl (hq g e (Nat.mul_mod_right g h))
  · by_cases e2 : h < s
    · right
      have := hq h e2 (Nat.mul_mod_left g h)
      subst this; simp
    · have : s * s ≤ g * h := Nat.mul_le_mul (by omega) (by omega)
      omega

theorem pock {q s a e c : Nat} {r : Nat} (hs : q < s * s) (hq : ∀ g, g < s → q % g = 0 → g = 1) (hq0 : 0 < q)
    (hr : Prm r) (hrP : r ∣ P) (he : e * q = P - 1) (ha : pm a 61 (P - 1) = 1) (hc : pm a 61 e = c) (hg : Nat.gcd (c - 1) P = 1) :
    q ∣ r - 1 := by
  rw [pm_eq a 61 (P - 1) (by decide)] at ha
  rw [pm_eq a 61 e (by have : e ≤ e * q := Nat.le_mul_of_pos_right e hq0
                       have h2 : P - 1 < 2 ^ 61 := by decide
                       omega)] at hc
  have hr1 := hr.1
  rcases small_dvd hs hq (Nat.gcd q (r - 1)) (Nat.gcd_dvd_left _ _) hq0 with h | h
  · exfalso
    have hb : (a ^ e) ^ q % r = 1 := by
      rw [← Nat.pow_mul, he]
      have : a ^ (P - 1) % P % r = 1 % r := by rw [ha]
      rw [Nat.mod_mod_of_dvd _ hrP] at this
      rw [this, Nat.mod_eq_of_lt hr1]
    have hne : (a ^ e) % r ≠ 0 := by
      intro h0
      have : (a ^ e) ^ q % r = 0 := by
        obtain ⟨k, rfl⟩ : ∃ k, q = k + 1 := ⟨q - 1, by omega⟩
        rw [Nat.pow_succ, Nat.mul_mod, h0]; simp
      omega
    have hl := hr.little (a ^ e) hne
    have h1 := ord_gcd hr1 q (r - 1) hb hl
    rw [h, Nat.pow_one] at h1
    have h2 : c % r = 1 := by
      rw [← hc, Nat.mod_mod_of_dvd _ hrP]; exact h1
    have h3 : r ∣ c - 1 := Nat.dvd_of_mod_eq_zero (Nat.sub_mod_eq_zero_of_mod_eq (by rw [h2, Nat.mod_eq_of_lt hr1]))
    have h4 : r ∣ Nat.gcd (c - 1) P := Nat.dvd_gcd h3 hrP
    rw [hg] at h4
    have := Nat.le_of_dvd (by omega) h4
    omega
  · rw [← h]; exact Nat.gcd_dvd_right _ _

theorem all37 : pm 37 61 (P - 1) = 1 := by decide +kernel
theorem p1321 : pm 37 61 1745528394559950 = 30210013857155493 := by decide +kernel
theorem p331 : pm 37 61 6966293079195450 = 185945230422323302 := by decide +kernel
theorem p151 : pm 37 61 15270483504726450 = 1433721343585656393 := by decide +kernel
theorem p61 : pm 37 61 37800705069076950 = 35184372088832 := by decide +kernel

theorem q1321 : ∀ g, g < 37 → 1321 % g = 0 → g = 1 := by decide +kernel
theorem q331 : ∀ g, g < 19 → 331 % g = 0 → g = 1 := by decide +kernel
theorem q151 : ∀ g, g < 13 → 151 % g = 0 → g = 1 := by decide +kernel
theorem q61 : ∀ g, g < 8 → 61 % g = 0 → g = 1 := by decide +kernel

theorem co1 : Nat.Coprime 1321 331 := by decide +kernel
theorem co2 : Nat.Coprime (1321 * 331) 151 := by decide +kernel
theorem co3 : Nat.Coprime (1321 * 331 * 151) 61 := by decide +kernel
theorem big_sq : ¬ (4027518962 * 4027518962 ≤ P) := by decide +kernel

theorem dvd_all {r : Nat} (hr : Prm r) (hd : r ∣ P) : 4027518961 ∣ r - 1 := by
  have d1 : 1321 ∣ r - 1 := pock (s := 37) (by decide) q1321 (by decide) hr hd (by decide +kernel) all37 p1321 (by decide +kernel)
  have d2 : 331 ∣ r - 1 := pock (s := 19) (by decide) q331 (by decide) hr hd (by decide +kernel) all37 p331 (by decide +kernel)
  have d3 : 151 ∣ r - 1 := pock (s := 13) (by decide) q151 (by decide) hr hd (by decide +kernel) all37 p151 (by decide +kernel)
  have d4 : 61 ∣ r - 1 := pock (s := 8) (by decide) q61 (by decide) hr hd (by decide +kernel) all37 p61 (by decide +kernel)
  exact Nat.Coprime.mul_dvd_of_dvd_of_dvd co3 (Nat.Coprime.mul_dvd_of_dvd_of_dvd co2 (Nat.Coprime.mul_dvd_of_dvd_of_dvd co1 d1 d2) d3) d4

theorem prm_of {p : Nat} (h1 : 1 < p) (hr : ∀ r, Prm r → r ∣ p → r * r ≤ p → False) : Prm p := by
  obtain ⟨r, h2, hd, hl⟩ := least p h1
  have hp := least_prm h2 hd hl
  obtain ⟨m, hm⟩ := hd
  by_cases e : m = 1
  · subst e
    have : p = r := by omega
    rw [this]; exact hp
  · exfalso
    have hm0 : m ≠ 0 := by intro h; subst h; simp at hm; omega
    have hrm : r ≤ m := hl m (by omega) ⟨r, by rw [hm, Nat.mul_comm]⟩
    exact hr r hp ⟨m, hm⟩ (by rw [hm]; exact Nat.mul_le_mul_left r hrm)

theorem prm_P : Prm P := by
  refine prm_of (by decide +kernel) (fun r hr hd hle => ?_)
  have hq := Nat.le_of_dvd (by have := hr.1; omega) (dvd_all hr hd)
  exact big_sq (Nat.le_trans (Nat.mul_le_mul (show 4027518962 ≤ r by omega) (show 4027518962 ≤ r by omega)) hle)

end Go.Proofs.YtbfgppecpkfcnaaDoor.Fq
namespace Go.Proofs.YtbfgppecpkfcnaaDoor.Fq

/-! ## The field -/
def PP : Nat := 2305843009213693951
theorem PP_eq : PP = 2305843009213693951 := rfl
theorem prm_PP : Prm PP := prm_P
theorem PP_succ : (PP - 2).succ = PP - 1 := by decide
theorem PP_pos : 0 < PP := by decide
instance : NeZero PP := ⟨by decide⟩
abbrev K := Fin PP

def c (n : Nat) : K := ⟨n % PP, Nat.mod_lt _ PP_pos⟩

theorem c_val (n : Nat) : (c n).val = n % PP := rfl
theorem c_add (a b : Nat) : c (a + b) = c a + c b := by
  apply Fin.ext; rw [Fin.val_add, c_val, c_val, c_val, ← Nat.add_mod]
theorem c_mul (a b : Nat) : c (a * b) = c a * c b := by
  apply Fin.ext; rw [Fin.val_mul, c_val, c_val, c_val, ← Nat.mul_mod]
theorem c_mod (a : Nat) : c (a % PP) = c a := by
  apply Fin.ext; rw [c_val, c_val, Nat.mod_mod]
theorem c_zero : c 0 = 0 := by
  apply Fin.ext; rfl
theorem c_one : c 1 = 1 := by
  apply Fin.ext; rfl
theorem c_self : c PP = 0 := by
  apply Fin.ext; rw [c_val, Nat.mod_self]; rfl
theorem c_pow (a n : Nat) : c (a ^ n) = c a ^ n := by
  induction n with
  | zero => rw [Nat.pow_zero, c_one]; grind
  | succ n ih => rw [Nat.pow_succ, c_mul, ih]; grind
theorem c_iff {a b : Nat} : c a = c b ↔ a % PP = b % PP := by
  rw [Fin.ext_iff, c_val, c_val]
theorem c_of_val (x : K) : c x.val = x := by
  apply Fin.ext; rw [c_val, Nat.mod_eq_of_lt x.isLt]
theorem c_eq_zero {a : Nat} : c a = 0 ↔ a % PP = 0 := by
  rw [← c_zero, c_iff, Nat.zero_mod]
theorem val_eq {r : Nat} {x : K} (h : r < PP) (e : c r = x) : r = x.val := by
  rw [← e, c_val, Nat.mod_eq_of_lt h]
theorem c_sub {a b : Nat} (h : b ≤ a) : c (a - b) = c a - c b := by
  have e : c a = c (a - b) + c b := by rw [← c_add]; congr 1; omega
  rw [e]; grind

theorem no_zero (x y : K) (h : x * y = 0) : x = 0 ∨ y = 0 := by
  have h1 : (x.val * y.val) % PP = 0 := by
    have := congrArg Fin.val h
    rw [Fin.val_mul] at this
    exact this
  rcases prm_PP.2 _ _ (Nat.dvd_of_mod_eq_zero h1) with h2 | h2
  · left
    rw [← c_of_val x, c_eq_zero]
    exact Nat.mod_eq_zero_of_dvd h2
  · right
    rw [← c_of_val y, c_eq_zero]
    exact Nat.mod_eq_zero_of_dvd h2

def kinv (x : K) : K := c (x.val ^ (PP - 2))

theorem kinv_mul (x : K) (h : x ≠ 0) : kinv x * x = 1 := by
  have h1 : x.val % PP ≠ 0 := by
    intro e; apply h; rw [← c_of_val x, c_eq_zero]; exact e
  have h2 := prm_PP.little x.val h1
  have e : kinv x * x = c (x.val ^ (PP - 2) * x.val) := by
    rw [c_mul, c_of_val]; rfl
  rw [e, ← Nat.pow_succ, ← c_one, c_iff]
  rw [PP_succ, h2, Nat.mod_eq_of_lt prm_PP.1]

theorem kinv_uniq (x y : K) (h : y * x = 1) : y = kinv x := by
  have h0 : x ≠ 0 := by
    intro e; rw [e] at h
    have : (0 : K) = 1 := by grind
    exact absurd this (by decide)
  have := kinv_mul x h0
  grind

theorem one_ne : (1 : K) ≠ 0 := by decide

theorem kinv_zero : kinv 0 = 0 := by
  unfold kinv
  have : ((0 : K).val) = 0 := rfl
  rw [this, Nat.zero_pow (by decide), c_zero]

theorem pow_val (x : K) (n : Nat) : (x ^ n).val = x.val ^ n % PP := by
  have h : x ^ n = c (x.val ^ n) := by rw [c_pow, c_of_val]
  rw [h, c_val]

theorem pow_P (x : K) : x ^ PP = x := by
  apply Fin.ext
  rw [pow_val, prm_PP.fermat x.val, Nat.mod_eq_of_lt x.isLt]

end Go.Proofs.YtbfgppecpkfcnaaDoor.Fq
namespace Go.Proofs.YtbfgppecpkfcnaaDoor.Fq

/-! ## Curves: functions that a list of n numbers gives -/
theorem k_add_zero (a : K) : a + 0 = a := by grind
theorem k_mul_zero (a : K) : a * 0 = 0 := by grind
theorem k_zero_add (a : K) : 0 + a = a := by grind
theorem k_sub_self (a : K) : a - a = 0 := by grind

def ev : List K → K → K
  | [], _ => 0
  | a :: l, x => a + x * ev l x

def D (n : Nat) (f : K → K) : Prop := ∃ l : List K, l.length = n ∧ ∀ x, f x = ev l x

theorem ev_zeros (n : Nat) (x : K) : ev (List.replicate n 0) x = 0 := by
  induction n with
  | zero => rfl
  | succ n ih => rw [List.replicate_succ]; simp only [ev]; rw [ih, k_mul_zero, k_add_zero]

theorem D.zero (n : Nat) : D n (fun _ => 0) := ⟨List.replicate n 0, by simp, fun x => (ev_zeros n x).symm⟩

theorem ev_add (l : List K) : ∀ m : List K, l.length = m.length → ∃ s : List K, s.length = l.length ∧ ∀ x, ev s x = ev l x + ev m x := by
  induction l with
  | nil =>
    intro m h
    have : m = [] := by cases m with | nil => rfl | cons a m => simp at h
    subst this
    exact ⟨[], rfl, fun x => by simp only [ev]; rw [k_add_zero]⟩
  | cons a l ih =>
    intro m h
    cases m with
    | nil => simp at h
    | cons b m =>
      obtain ⟨s, h1, h2⟩ := ih m (by simpa using h)
      refine ⟨(a + b) :: s, by simp [h1], fun x => ?_⟩
      simp only [ev]; rw [h2]; grind

theorem ev_mul (k : K) (l : List K) : ∃ s : List K, s.length = l.length ∧ ∀ x, ev s x = k * ev l x := by
  induction l with
  | nil => exact ⟨[], rfl, fun x => by simp only [ev]; rw [k_mul_zero]⟩
  | cons a l ih =>
    obtain ⟨s, h1, h2⟩ := ih
    refine ⟨(k * a) :: s, by simp [h1], fun x => ?_⟩
    simp only [ev]; rw [h2]; grind

theorem ev_pad (l : List K) (x : K) : ev (l ++ [0]) x = ev l x := by
  induction l with
  | nil => simp only [ev, List.nil_append]; rw [k_mul_zero, k_add_zero]
  | cons a l ih => simp only [ev, List.cons_append]; rw [ih]

theorem D.add {n : Nat} {f g : K → K} (hf : D n f) (hg : D n g) : D n (fun x => f x + g x) := by
  obtain ⟨l, h1, h2⟩ := hf
  obtain ⟨m, h3, h4⟩ := hg
  obtain ⟨s, h5, h6⟩ := ev_add l m (by omega)
  exact ⟨s, by omega, fun x => by rw [h6, ← h2, ← h4]⟩

theorem D.mul {n : Nat} {f : K → K} (k : K) (hf : D n f) : D n (fun x => k * f x) := by
  obtain ⟨l, h1, h2⟩ := hf
  obtain ⟨s, h5, h6⟩ := ev_mul k l
  exact ⟨s, by omega, fun x => by rw [h6, ← h2]⟩

theorem D.sub {n : Nat} {f g : K → K} (hf : D n f) (hg : D n g) : D n (fun x => f x - g x) := by
  have h := hf.add (hg.mul (-1))
  obtain ⟨l, h1, h2⟩ := h
  exact ⟨l, h1, fun x => by rw [← h2]; grind⟩

theorem D.congr {n : Nat} {f g : K → K} (hf : D n f) (h : ∀ x, g x = f x) : D n g := by
  obtain ⟨l, h1, h2⟩ := hf
  exact ⟨l, h1, fun x => by rw [h, h2]⟩

theorem D.up {n : Nat} {f : K → K} (hf : D n f) : D (n + 1) f := by
  obtain ⟨l, h1, h2⟩ := hf
  exact ⟨l ++ [0], by simp [h1], fun x => by rw [ev_pad, h2]⟩

theorem D.le {n m : Nat} {f : K → K} (hf : D n f) (h : n ≤ m) : D m f := by
  obtain ⟨d, rfl⟩ : ∃ d, m = n + d := ⟨m - n, by omega⟩
  induction d with
  | zero => exact hf
  | succ d ih => exact (ih (by omega)).up

theorem D.shift {n : Nat} {f : K → K} (hf : D n f) : D (n + 1) (fun x => x * f x) := by
  obtain ⟨l, h1, h2⟩ := hf
  exact ⟨0 :: l, by simp [h1], fun x => by simp only [ev]; rw [h2]; grind⟩

/-- a curve times (x - r) -/
theorem D.factor {n : Nat} {f : K → K} (r : K) (hf : D n f) : D (n + 1) (fun x => (x - r) * f x) :=
  (hf.shift.sub (hf.up.mul r)).congr (fun x => by grind)

theorem D.const (k : K) : D 1 (fun _ => k) := ⟨[k], rfl, fun x => by simp only [ev]; rw [k_mul_zero, k_add_zero]⟩

theorem ev_div (l : List K) (r : K) : ∃ g : K → K, D (l.length - 1) g ∧ ∀ x, ev l x - ev l r = (x - r) * g x := by
  induction l with
  | nil => exact ⟨fun _ => 0, D.zero _, fun x => by simp only [ev]; rw [k_sub_self, k_mul_zero]⟩
  | cons a l ih =>
    obtain ⟨g, h1, h2⟩ := ih
    refine ⟨fun x => ev l x + r * g x, ?_, fun x => ?_⟩
    · refine D.add ⟨l, by simp, fun x => rfl⟩ ((h1.mul r).le ?_)
      simp
    · simp only [ev]
      have := h2 x
      grind

/-- a curve of n numbers that is 0 at n places is 0 -/
theorem D.roots {n : Nat} : ∀ {f : K → K} (_ : D n f) (xs : List K), xs.Nodup → n ≤ xs.length → (∀ x ∈ xs, f x = 0) → ∀ x, f x = 0 := by
  induction n with
  | zero =>
    intro f hf xs _ _ _ x
    obtain ⟨l, h1, h2⟩ := hf
    have : l = [] := by cases l with | nil => rfl | cons a l => simp at h1
    subst this
    rw [h2]; rfl
  | succ n ih =>
    intro f hf xs hn hl h0 x
    obtain ⟨l, h1, h2⟩ := hf
    cases xs with
    | nil => simp at hl
    | cons r xs =>
      obtain ⟨g, h3, h4⟩ := ev_div l r
      have hr : ev l r = 0 := by rw [← h2]; exact h0 r (by simp)
      have hg : ∀ x, g x = 0 := by
        refine ih (h3.le (by omega)) xs (by simp at hn; exact hn.2) (by simpa using hl) (fun y hy => ?_)
        have e := h4 y
        have hy0 : ev l y = 0 := by rw [← h2]; exact h0 y (by simp [hy])
        have hne : y - r ≠ 0 := by
          intro e2
          have : y = r := by grind
          subst this
          simp at hn
          exact hn.1 hy
        rw [hy0, hr, k_sub_self] at e
        rcases no_zero (y - r) (g y) e.symm with h | h
        · exact absurd h hne
        · exact h
      rw [h2]
      have e := h4 x
      rw [hr, hg x] at e
      grind

theorem D.same {n : Nat} {f g : K → K} (hf : D n f) (hg : D n g) (xs : List K) (hn : xs.Nodup) (hl : n ≤ xs.length) (h : ∀ x ∈ xs, f x = g x) : ∀ x, f x = g x := by
  intro x
  have := (hf.sub hg).roots xs hn hl (fun y hy => by have := h y hy; grind) x
  grind

end Go.Proofs.YtbfgppecpkfcnaaDoor.Fq
