/-
  Tables that hide rows: plain facts on sums, on what is hidden, moved and shown. No program in sight.
-/
import Derived.ProofKit
namespace Go.Proofs.YtihcolmkfmdbaaaDoor.Ip

/-! ### numbers that wrap, and rows of them -/
def ad (x y : Int) : Int := (x + y) % 4294967296
def sb (x y : Int) : Int := (x - y) % 4294967296
def va (a b : List Int) : List Int := List.zipWith ad a b
def vs (a b : List Int) : List Int := List.zipWith sb a b
def zr (d : Nat) : List Int := List.replicate d 0
/-- the number at a place -/
def nat (l : List Int) (c : Nat) : Int := l.getD c 0
def gr (L : List (List Int)) (i : Nat) : List Int := L.getD i []
def gp (P : List (List (List Int))) (i : Nat) : List (List Int) := P.getD i []

theorem va_len {a b : List Int} {d : Nat} (ha : a.length = d) (hb : b.length = d) : (va a b).length = d := by simp [va, ha, hb]
theorem vs_len {a b : List Int} {d : Nat} (ha : a.length = d) (hb : b.length = d) : (vs a b).length = d := by simp [vs, ha, hb]
theorem zr_len (d : Nat) : (zr d).length = d := by simp [zr]
theorem nat_va {a b : List Int} {d c : Nat} (ha : a.length = d) (hb : b.length = d) (hc : c < d) : nat (va a b) c = (nat a c + nat b c) % 4294967296 := by
  have h1 : c < a.length := by omega
  have h2 : c < b.length := by omega
  unfold nat va
  simp only [List.getD_eq_getElem?_getD, List.getElem?_zipWith, List.getElem?_eq_getElem h1, List.getElem?_eq_getElem h2]
  rfl
theorem nat_vs {a b : List Int} {d c : Nat} (ha : a.length = d) (hb : b.length = d) (hc : c < d) : nat (vs a b) c = (nat a c - nat b c) % 4294967296 := by
  have h1 : c < a.length := by omega
  have h2 : c < b.length := by omega
  unfold nat vs
  simp only [List.getD_eq_getElem?_getD, List.getElem?_zipWith, List.getElem?_eq_getElem h1, List.getElem?_eq_getElem h2]
  rfl
theorem nat_zr (d c : Nat) : nat (zr d) c = 0 := by
  unfold nat zr
  rw [List.getD_eq_getElem?_getD, List.getElem?_replicate]
  split <;> rfl
theorem row_ext {a b : List Int} {d : Nat} (ha : a.length = d) (hb : b.length = d) (h : ∀ c, c < d → nat a c = nat b c) : a = b := by
  apply List.ext_getElem (by omega)
  intro i h1 h2
  have := h i (by omega)
  simpa [nat, List.getD, h1, h2] using this
theorem rows_ext {A B : List (List Int)} {n : Nat} (ha : A.length = n) (hb : B.length = n) (h : ∀ i, i < n → gr A i = gr B i) : A = B := by
  apply List.ext_getElem (by omega)
  intro i h1 h2
  have := h i (by omega)
  simpa [gr, List.getD, h1, h2] using this
theorem pairs_ext {A B : List (List (List Int))} {n : Nat} (ha : A.length = n) (hb : B.length = n) (h : ∀ i, i < n → gp A i = gp B i) : A = B := by
  apply List.ext_getElem (by omega)
  intro i h1 h2
  have := h i (by omega)
  simpa [gp, List.getD, h1, h2] using this

/-! ### sums of many -/
def sF : Nat → (Nat → Int) → Int
  | 0, _ => 0
  | n + 1, f => sF n f + f n
theorem sF_congr {f g : Nat → Int} : ∀ n, (∀ k, k < n → f k = g k) → sF n f = sF n g
  | 0, _ => rfl
  | n + 1, h => by simp only [sF]; rw [sF_congr n (fun k hk => h k (by omega)), h n (by omega)]
theorem sF_mod {f g : Nat → Int} : ∀ n, (∀ k, k < n → f k % 4294967296 = g k % 4294967296) → sF n f % 4294967296 = sF n g % 4294967296
  | 0, _ => rfl
  | n + 1, h => by
    simp only [sF]
    have h1 := sF_mod n (fun k hk => h k (by omega))
    have h2 := h n (by omega)
    omega
theorem sF_add (f g : Nat → Int) : ∀ n, sF n (fun k => f k + g k) = sF n f + sF n g
  | 0 => rfl
  | n + 1 => by simp only [sF]; rw [sF_add f g n]; omega
theorem sF_neg (f : Nat → Int) : ∀ n, sF n (fun k => - f k) = - sF n f
  | 0 => rfl
  | n + 1 => by simp only [sF]; rw [sF_neg f n]; omega
theorem sF_zero (f : Nat → Int) : ∀ n, (∀ k, k < n → f k = 0) → sF n f = 0
  | 0, _ => rfl
  | n + 1, h => by simp only [sF]; rw [sF_zero f n (fun k hk => h k (by omega)), h n (by omega)]; rfl
theorem sF_swap (s : Nat → Nat → Int) (m : Nat) : ∀ n, sF n (fun i => sF m (fun k => s i k)) = sF m (fun k => sF n (fun i => s i k))
  | 0 => (sF_zero _ m (fun _ _ => rfl)).symm
  | n + 1 => by
    simp only [sF]
    rw [sF_swap s m n, ← sF_add]
/-- what is turned round comes to nothing -/
theorem sF_anti (s : Nat → Nat → Int) (n : Nat) (h : ∀ i k, i < n → k < n → s i k = - s k i) : sF n (fun i => sF n (fun k => s i k)) = 0 := by
  have h1 := sF_swap s n n
  have h2 : sF n (fun k => sF n (fun i => s i k)) = - sF n (fun k => sF n (fun i => s k i)) := by
    rw [← sF_neg]
    exact sF_congr n (fun k hk => by rw [← sF_neg]; exact sF_congr n (fun i hi => h i k hi hk))
  omega
/-! ### what is hidden -/
def hstep (P : List (List (List Int))) (i : Nat) (acc : List Int) (k : Nat) : List Int :=
  if i < k then va acc (gr (gp P i) (k - i - 1)) else if k < i then vs acc (gr (gp P k) (i - k - 1)) else acc
def hpart (O : List (List Int)) (P : List (List (List Int))) (i : Nat) (x : List Int) (k : Nat) : List Int := (List.range k).foldl (hstep P i) (va x (gr O i))
def hid (O : List (List Int)) (P : List (List (List Int))) (L : List (List Int)) : List (List Int) := (List.range L.length).map fun i => hpart O P i (gr L i) L.length

structure Fit (O : List (List Int)) (P : List (List (List Int))) (n d : Nat) : Prop where
  own : O.length = n
  prs : P.length = n
  ol : ∀ i, i < n → (gr O i).length = d
  pl : ∀ i, i < n → (gp P i).length = n - 1 - i
  rl : ∀ i, i < n → ∀ k, k < n - 1 - i → (gr (gp P i) k).length = d
def Rows (L : List (List Int)) (n d : Nat) : Prop := L.length = n ∧ ∀ i, i < n → (gr L i).length = d

theorem hpart_succ (O : List (List Int)) (P : List (List (List Int))) (i : Nat) (x : List Int) (k : Nat) : hpart O P i x (k + 1) = hstep P i (hpart O P i x k) k := by
  simp [hpart, List.range_succ]
theorem hid_len (O : List (List Int)) (P : List (List (List Int))) (L : List (List Int)) : (hid O P L).length = L.length := by simp [hid]
theorem hid_at (O : List (List Int)) (P : List (List (List Int))) (L : List (List Int)) {i : Nat} (hi : i < L.length) : gr (hid O P L) i = hpart O P i (gr L i) L.length := by
  simp [hid, gr, List.getD, hi]
/-- the pair's number, from one's side -/
def sd (P : List (List (List Int))) (c i k : Nat) : Int := if i < k then nat (gr (gp P i) (k - i - 1)) c else if k < i then - nat (gr (gp P k) (i - k - 1)) c else 0
theorem sd_anti (P : List (List (List Int))) (c i k : Nat) : sd P c i k = - sd P c k i := by
  unfold sd
  by_cases h : i < k
  · rw [if_pos h, if_neg (by omega), if_pos h]; omega
  · by_cases h1 : k < i
    · rw [if_neg h, if_pos h1, if_pos h1]
    · rw [if_neg h, if_neg h1, if_neg h1, if_neg h]; rfl
section
variable {O : List (List Int)} {P : List (List (List Int))} {n d : Nat}
theorem hpart_is (F : Fit O P n d) {i : Nat} (hi : i < n) {x : List Int} (hx : x.length = d) : ∀ k, k ≤ n →
    (hpart O P i x k).length = d ∧ ∀ c, c < d → nat (hpart O P i x k) c = (nat x c + nat (gr O i) c + sF k (sd P c i)) % 4294967296
  | 0, _ => by
    have h0 : hpart O P i x 0 = va x (gr O i) := rfl
    rw [h0]
    refine ⟨va_len hx (F.ol i hi), fun c hc => ?_⟩
    rw [nat_va hx (F.ol i hi) hc]
    simp [sF]
  | k + 1, hk => by
    obtain ⟨h1, h2⟩ := hpart_is F hi hx k (by omega)
    rw [hpart_succ]
    unfold hstep
    by_cases h : i < k
    · rw [if_pos h]
      have hr := F.rl i hi (k - i - 1) (by omega)
      refine ⟨va_len h1 hr, fun c hc => ?_⟩
      rw [nat_va h1 hr hc, h2 c hc]
      simp only [sF]
      have e : sd P c i k = nat (gr (gp P i) (k - i - 1)) c := by unfold sd; rw [if_pos h]
      omega
    · by_cases h' : k < i
      · rw [if_neg h, if_pos h']
        have hr := F.rl k (by omega) (i - k - 1) (by omega)
        refine ⟨vs_len h1 hr, fun c hc => ?_⟩
        rw [nat_vs h1 hr hc, h2 c hc]
        simp only [sF]
        have e : sd P c i k = - nat (gr (gp P k) (i - k - 1)) c := by unfold sd; rw [if_neg h, if_pos h']
        omega
      · rw [if_neg h, if_neg h']
        refine ⟨h1, fun c hc => ?_⟩
        rw [h2 c hc]
        simp only [sF]
        have e : sd P c i k = 0 := by unfold sd; rw [if_neg h, if_neg h']
        omega
end

/-! ### sums of rows -/
def sumr (l : List (List Int)) (d : Nat) : List Int := l.foldl va (zr d)
theorem sumr_snoc (l : List (List Int)) (x : List Int) (d : Nat) : sumr (l ++ [x]) d = va (sumr l d) x := by simp [sumr]
theorem take_snoc {L : List (List Int)} {k : Nat} (hk : k < L.length) : L.take (k + 1) = L.take k ++ [gr L k] := by
  rw [List.take_succ_eq_append_getElem hk]
  simp [gr, List.getD, hk]
theorem sumr_is {L : List (List Int)} {n d : Nat} (h : Rows L n d) : ∀ k, k ≤ n → (sumr (L.take k) d).length = d ∧ ∀ c, c < d → nat (sumr (L.take k) d) c = sF k (fun i => nat (gr L i) c) % 4294967296
  | 0, _ => by
    rw [List.take_zero]
    exact ⟨zr_len d, fun c _ => by show nat (zr d) c = _; rw [nat_zr]; rfl⟩
  | k + 1, hk => by
    obtain ⟨h1, h2⟩ := sumr_is h k (by omega)
    have hl := h.1
    rw [take_snoc (by omega), sumr_snoc]
    have hr := h.2 k (by omega)
    refine ⟨va_len h1 hr, fun c hc => ?_⟩
    rw [nat_va h1 hr hc, h2 c hc]
    simp only [sF]
    omega
theorem sumr_all {L : List (List Int)} {n d : Nat} (h : Rows L n d) : (sumr L d).length = d ∧ ∀ c, c < d → nat (sumr L d) c = sF n (fun i => nat (gr L i) c) % 4294967296 := by
  have := sumr_is h n (Nat.le_refl n)
  rwa [List.take_of_length_le (by rw [h.1]; exact Nat.le_refl _)] at this
theorem hid_rows {O : List (List Int)} {P : List (List (List Int))} {L : List (List Int)} {n d : Nat} (F : Fit O P n d) (hL : Rows L n d) : Rows (hid O P L) n d := by
  have hl := hL.1
  refine ⟨by rw [hid_len, hl], fun i hi => ?_⟩
  rw [hid_at O P L (by omega)]
  exact (hpart_is F hi (hL.2 i hi) L.length (by omega)).1
/-- the sum of what is hidden is the sum of the rows and of all Own -/
theorem sums_are {O : List (List Int)} {P : List (List (List Int))} {L : List (List Int)} {n d : Nat} (F : Fit O P n d) (hL : Rows L n d) :
    sumr (hid O P L) d = va (sumr L d) (sumr O d) := by
  have hl := hL.1
  obtain ⟨a1, a2⟩ := sumr_all (hid_rows F hL)
  obtain ⟨b1, b2⟩ := sumr_all hL
  obtain ⟨c1, c2⟩ := sumr_all (L := O) ⟨F.own, F.ol⟩
  refine row_ext a1 (va_len b1 c1) fun c hc => ?_
  rw [a2 c hc, nat_va b1 c1 hc, b2 c hc, c2 c hc]
  have h1 : sF n (fun i => nat (gr (hid O P L) i) c) % 4294967296 = sF n (fun i => nat (gr L i) c + nat (gr O i) c + sF n (sd P c i)) % 4294967296 :=
    sF_mod n fun i hi => by
      rw [hid_at O P L (by omega), hl, (hpart_is F hi (hL.2 i hi) n (Nat.le_refl n)).2 c hc]
      omega
  have h2 : sF n (fun i => nat (gr L i) c + nat (gr O i) c + sF n (sd P c i)) = sF n (fun i => nat (gr L i) c) + sF n (fun i => nat (gr O i) c) + sF n (fun i => sF n (sd P c i)) := by
    rw [sF_add (fun i => nat (gr L i) c + nat (gr O i) c) (fun i => sF n (sd P c i)) n, sF_add]
  have h3 : sF n (fun i => sF n (fun k => sd P c i k)) = 0 := sF_anti (sd P c) n (fun i k _ _ => sd_anti P c i k)
  have h3' : sF n (fun i => sF n (sd P c i)) = 0 := h3
  rw [h1, h2, h3']
  omega

/-! ### who came -/
def hs (came : List Int) (k : Nat) : Bool := decide ((k : Int) ∈ came)
/-- a set of places -/
structure Places (came : List Int) (n : Nat) : Prop where
  lo : ∀ x ∈ came, 0 ≤ x ∧ x < (n : Int)
  asc : came.Pairwise (· < ·)
/-- where the first one stands; n, if nobody came -/
def fst (came : List Int) (n : Nat) : Nat := match came with | [] => n | x :: _ => x.toNat
/-! ### what is moved -/
def mrow (came : List Int) (P : List (List (List Int))) (L K : List (List Int)) (n i j : Nat) : List Int :=
  if i = fst came n ∧ hs came (i + 1 + j) = true then va (gr (gp P i) j) (vs (gr K (i + 1 + j)) (gr L (i + 1 + j))) else gr (gp P i) j
def moved (came : List Int) (P : List (List (List Int))) (L K : List (List Int)) (n : Nat) : List (List (List Int)) :=
  (List.range n).map fun i => (List.range (n - 1 - i)).map fun j => mrow came P L K n i j
theorem moved_at {came : List Int} {P : List (List (List Int))} {L K : List (List Int)} {n i : Nat} (hi : i < n) : gp (moved came P L K n) i = (List.range (n - 1 - i)).map fun j => mrow came P L K n i j := by
  simp [gp, moved, List.getD, hi]
theorem moved_row {came : List Int} {P : List (List (List Int))} {L K : List (List Int)} {n i j : Nat} (hi : i < n) (hj : j < n - 1 - i) : gr (gp (moved came P L K n) i) j = mrow came P L K n i j := by
  rw [moved_at hi]
  simp [gr, List.getD, hj]
section
variable {O : List (List Int)} {P : List (List (List Int))} {L K : List (List Int)} {came : List Int} {n d : Nat}
end

/-! ### what is shown -/
def shownO (came : List Int) (O : List (List Int)) (n d : Nat) : List (List Int) := (List.range n).map fun i => if hs came i = true then gr O i else zr d
def shownR (came : List Int) (P : List (List (List Int))) (d i j : Nat) : List Int := if hs came i = hs came (i + 1 + j) then zr d else gr (gp P i) j
def shownP (came : List Int) (P : List (List (List Int))) (n d : Nat) : List (List (List Int)) := (List.range n).map fun i => (List.range (n - 1 - i)).map fun j => shownR came P d i j
section
variable {O : List (List Int)} {P : List (List (List Int))} {L K : List (List Int)} {came : List Int} {n d : Nat}
end
end Go.Proofs.YtihcolmkfmdbaaaDoor.Ip
