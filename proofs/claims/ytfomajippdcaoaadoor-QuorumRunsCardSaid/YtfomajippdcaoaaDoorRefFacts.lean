/-
  What the references' printed functions answer (sets, comparers), and their calls with known answers.
-/
import Derived.Test.YtfomajippdcaoaaDoorSetCalls
namespace Go.Proofs.YtfomajippdcaoaaDoor.PSet
open Go.RowKit Go.Proofs.YtfomajippdcaoaaDoorW.PrintWords Go.Proofs.YtfomajippdcaoaaDoorW.PrintLast Go.Proofs.YtfomajippdcaoaaDoorW.PrintMore

theorem mem_dec (x n : Int) (l : List Int) : decide (n ∈ x :: l) = ((x == n) || decide (n ∈ l)) := by
  by_cases e : x = n
  · simp [e]
  · have e' : ¬ n = x := fun h => e h.symm
    simp [e, e']
theorem hasr_loop (d : Nat) : ∀ (k : Nat) (l : List Int) (n : Int) (b : Bool) (j : Nat), l.length ≤ j + d → j ≤ l.length → l.length ≤ 1000 → d < k →
    caucusref15_Has.l0 k l n b (j : Int) = some ((b || decide (n ∈ l.drop j)) && decide (0 ≤ n) && decide (n ≤ 63)) := by
  induction d with
  | zero =>
    intro k l n b j hd hj _ hk
    obtain ⟨k, rfl⟩ : ∃ m, k = m + 1 := ⟨k - 1, by omega⟩
    simp only [caucusref15_Has.l0]
    rw [if_neg (by omega), List.drop_of_length_le (by omega)]
    cases b with
    | true =>
      rw [if_pos rfl]
      by_cases h0 : n ≥ 0
      · rw [if_pos h0]; simp [h0]
      · rw [if_neg h0]; simp; omega
    | false => rw [if_neg (by decide)]; simp
  | succ d ih =>
    intro k l n b j hd hj hs hk
    obtain ⟨k, rfl⟩ : ∃ m, k = m + 1 := ⟨k - 1, by omega⟩
    by_cases hlt : j < l.length
    · simp only [caucusref15_Has.l0]
      rw [if_pos (by omega)]
      cases b with
      | true =>
        rw [if_pos rfl, wrap64_in' _ (by omega) (by omega), show ((j : Int) + 1) = ((j + 1 : Nat) : Int) by omega, ih k l n true (j + 1) (by omega) (by omega) hs (by omega)]
        simp
      | false =>
        rw [if_neg (by decide), if_pos (by omega), rd_at l j hlt, wrap64_in' _ (by omega) (by omega), show ((j : Int) + 1) = ((j + 1 : Nat) : Int) by omega, ih k l n (l[j] == n) (j + 1) (by omega) (by omega) hs (by omega), drop_at l j hlt]
        rw [mem_dec, Bool.false_or]
    · simp only [caucusref15_Has.l0]
      rw [if_neg (by omega), List.drop_of_length_le (by omega)]
      cases b with
      | true =>
        rw [if_pos rfl]
        by_cases h0 : n ≥ 0
        · rw [if_pos h0]; simp [h0]
        · rw [if_neg h0]; simp; omega
      | false => rw [if_neg (by decide)]; simp
theorem hasr_tells (k : Nat) (l : List Int) (n : Int) (hl : l.length ≤ 1000) (hk : 1000 < k) : caucusref15_Has.f k l n = some (decide (0 ≤ n ∧ n < 64 ∧ n ∈ l)) := by
  have h := hasr_loop l.length k l n false 0 (by omega) (by omega) hl (by omega)
  refine h.trans ?_
  congr 1
  rw [List.drop_zero, Bool.false_or]
  by_cases h1 : n ∈ l <;> by_cases h2 : 0 ≤ n <;> by_cases h3 : n ≤ 63 <;> simp [h1, h2, h3] <;> omega
theorem hasr_nat (k : Nat) (l : List Int) (n : Nat) (hn : n < 64) (hl : l.length ≤ 1000) (hk : 1000 < k) : caucusref15_Has.f k l (n : Int) = some (decide ((n : Int) ∈ l)) := by
  rw [hasr_tells k l n hl hk]
  congr 1
  by_cases h : (n : Int) ∈ l <;> simp [h]
  omega

theorem may_loop (d : Nat) : ∀ (k : Nat) (l : List Int) (last : Int) (j : Nat), l.length ≤ j + d → j ≤ l.length → l.length ≤ 1000 → d < k → (j = 0 → last = -1) → (∀ i, j = i + 1 → last = rd l (i : Int) ∧ 0 ≤ last) →
    caucusref15_May.l0 k l (j : Int) = some (inc last (l.drop j)) := by
  induction d with
  | zero =>
    intro k l last j hd hj _ hk _ _
    obtain ⟨k, rfl⟩ : ∃ m, k = m + 1 := ⟨k - 1, by omega⟩
    simp only [caucusref15_May.l0]
    rw [if_neg (by omega), List.drop_of_length_le (by omega)]
    rfl
  | succ d ih =>
    intro k l last j hd hj hs hk h0 h1
    obtain ⟨k, rfl⟩ : ∃ m, k = m + 1 := ⟨k - 1, by omega⟩
    by_cases hlt : j < l.length
    · simp only [caucusref15_May.l0]
      rw [if_pos (by omega), if_pos (by omega), rd_at l j hlt, drop_at l j hlt]
      simp only [inc]
      have hlast : -1 ≤ last := by
        rcases Nat.eq_zero_or_pos j with hj0 | hj0
        · have := h0 hj0; omega
        · have := (h1 (j - 1) (by omega)).2; omega
      by_cases a1 : l[j] < 0
      · rw [if_pos a1]
        have e : decide (last < l[j]) = false := decide_eq_false (by omega)
        simp [e]
      · rw [if_neg a1]
        by_cases a2 : l[j] > 63
        · rw [if_pos a2]
          have e : decide (l[j] < 64) = false := decide_eq_false (by omega)
          simp [e]
        · rw [if_neg a2]
          have e2 : decide (l[j] < 64) = true := decide_eq_true (by omega)
          have hn := ih k l l[j] (j + 1) (by omega) (by omega) hs (by omega) (by omega) (fun i hi => by
            obtain rfl : j = i := by omega
            exact ⟨(rd_at l j hlt).symm, by omega⟩)
          have hw : wrap64 ((j : Int) + 1) = ((j + 1 : Nat) : Int) := by rw [wrap64_in' _ (by omega) (by omega)]; omega
          rcases Nat.eq_zero_or_pos j with hj0 | hj0
          · rw [if_neg (by omega), hw, hn]
            have := h0 hj0
            have e : decide (last < l[j]) = true := decide_eq_true (by omega)
            simp [e, e2]
          · obtain ⟨i, rfl⟩ : ∃ i, j = i + 1 := ⟨j - 1, by omega⟩
            have hi := (h1 i rfl).1
            have hw1 : wrap64 (((i + 1 : Nat) : Int) - 1) = (i : Int) := by rw [wrap64_in' _ (by omega) (by omega)]; omega
            rw [if_pos (by omega), hw1, if_pos (by omega), if_pos (by omega), ← hi]
            by_cases a3 : l[i + 1] ≤ last
            · rw [if_pos a3]
              have e : decide (last < l[i + 1]) = false := decide_eq_false (by omega)
              simp [e]
            · rw [if_neg a3, hw, hn]
              have e : decide (last < l[i + 1]) = true := decide_eq_true (by omega)
              simp [e, e2]
    · simp only [caucusref15_May.l0]
      rw [if_neg (by omega), List.drop_of_length_le (by omega)]
      rfl
theorem may_tells (k : Nat) (l : List Int) (hl : l.length ≤ 1000) (hk : 1000 < k) : caucusref15_May.f k l = some (inc (-1) l) :=
  may_loop l.length k l (-1) 0 (by omega) (by omega) hl (by omega) (fun _ => rfl) (fun i hi => by omega)

/-- what Some asks of a number -/
def pick (how : Int) (a b : List Int) (n : Nat) : Bool := if how = 0 then decide ((n : Int) ∈ a) || decide ((n : Int) ∈ b) else decide ((n : Int) ∈ a) && !decide ((n : Int) ∈ b)
theorem some_loop (a b : List Int) (how : Int) (hh : how = 0 ∨ how = 2) (ha : a.length ≤ 1000) (hb : b.length ≤ 1000) (d : Nat) : ∀ (k : Nat) (j : Nat), j + d = 64 → d + 1000 < k →
    caucusref15_Some.l0 k a b how (((List.range j).filter (pick how a b)).map fun (n : Nat) => (n : Int)) (j : Int) = some (sel (pick how a b)) := by
  induction d with
  | zero =>
    intro k j hj hk
    obtain ⟨k, rfl⟩ : ∃ m, k = m + 1 := ⟨k - 1, by omega⟩
    obtain rfl : j = 64 := by omega
    simp only [caucusref15_Some.l0]
    rw [if_neg (by omega)]
    rfl
  | succ d ih =>
    intro k j hj hk
    obtain ⟨k, rfl⟩ : ∃ m, k = m + 1 := ⟨k - 1, by omega⟩
    have h := ih k (j + 1) (by omega) (by omega)
    rw [List.range_succ, List.filter_append, List.map_append] at h
    have hlen : (((List.range j).filter (pick how a b)).map fun (n : Nat) => (n : Int)).length ≤ 64 := by
      rw [List.length_map]
      exact Nat.le_trans (List.length_filter_le _ _) (by simp; omega)
    simp only [caucusref15_Some.l0]
    rw [if_pos (by omega), hasr_nat k a j (by omega) ha (by omega), hasr_nat k b j (by omega) hb (by omega), wrap64_in' _ (by omega) (by omega)]
    simp only [obind]
    rcases hh with rfl | rfl
    · rw [if_pos rfl]
      by_cases h1 : (j : Int) ∈ a
      · rw [if_pos (by simp [h1]), if_pos (by omega)]
        have e : pick 0 a b j = true := by simp [pick, h1]
        simpa [e] using h
      · rw [if_neg (by simp [h1])]
        by_cases h2 : (j : Int) ∈ b
        · rw [if_pos (by simp [h2]), if_pos (by omega)]
          have e : pick 0 a b j = true := by simp [pick, h2]
          simpa [e] using h
        · rw [if_neg (by simp [h2]), if_neg (by decide), if_neg (by decide)]
          have e : pick 0 a b j = false := by simp [pick, h1, h2]
          simpa [e] using h
    · rw [if_neg (by decide), if_neg (by decide), if_pos rfl]
      by_cases h1 : (j : Int) ∈ a
      · rw [if_pos (by simp [h1])]
        by_cases h2 : (j : Int) ∈ b
        · rw [if_pos (by simp [h2])]
          have e : pick 2 a b j = false := by simp [pick, h2]
          simpa [e] using h
        · rw [if_neg (by simp [h2]), if_pos (by omega)]
          have e : pick 2 a b j = true := by simp [pick, h1, h2]
          simpa [e] using h
      · rw [if_neg (by simp [h1])]
        have e : pick 2 a b j = false := by simp [pick, h1]
        simpa [e] using h
theorem some_tells (k : Nat) (a b : List Int) (how : Int) (hh : how = 0 ∨ how = 2) (ha : a.length ≤ 1000) (hb : b.length ≤ 1000) (hk : 1100 < k) : caucusref15_Some.f k a b how = some (sel (pick how a b)) :=
  some_loop a b how hh ha hb 64 k 0 (by omega) (by omega)

theorem same26_loop (d : Nat) : ∀ (k : Nat) (a b : List Int) (j : Nat), a.length = b.length → a.length ≤ j + d → j ≤ a.length → a.length ≤ 1000 → d < k →
    caucusref26_same.l0 k a b (j : Int) = some (decide (a.drop j = b.drop j)) := by
  induction d with
  | zero =>
    intro k a b j hl hd hj _ hk
    obtain ⟨k, rfl⟩ : ∃ m, k = m + 1 := ⟨k - 1, by omega⟩
    simp only [caucusref26_same.l0]
    rw [if_neg (by omega), List.drop_of_length_le (by omega), List.drop_of_length_le (by omega)]
    rfl
  | succ d ih =>
    intro k a b j hl hd hj hs hk
    obtain ⟨k, rfl⟩ : ∃ m, k = m + 1 := ⟨k - 1, by omega⟩
    by_cases hlt : j < a.length
    · simp only [caucusref26_same.l0]
      rw [if_pos (by omega), if_pos (by omega), if_pos (by omega), rd_at a j hlt, rd_at b j (by omega), drop_at a j hlt, drop_at b j (by omega)]
      by_cases e : a[j] = b[j]'(by omega)
      · rw [if_pos e, wrap64_in' _ (by omega) (by omega)]
        have h := ih k a b (j + 1) hl (by omega) (by omega) hs (by omega)
        rw [show ((j : Int) + 1) = ((j + 1 : Nat) : Int) by omega, h, dec_eq e]
      · rw [if_neg e, dec_ne e]
    · simp only [caucusref26_same.l0]
      rw [if_neg (by omega), List.drop_of_length_le (by omega), List.drop_of_length_le (by omega)]
      rfl
theorem same26_tells (k : Nat) (a b : List Int) (ha : a.length ≤ 1000) (hk : 1000 < k) : caucusref26_same.f k a b = some (decide (a = b)) := by
  unfold caucusref26_same.f
  by_cases h : a.length = b.length
  · rw [if_pos (by omega)]
    exact same26_loop a.length k a b 0 h (by omega) (by omega) ha (by omega)
  · rw [if_neg (by omega)]
    congr 1
    exact (decide_eq_false (fun e => h (by rw [e]))).symm
theorem ints23_loop (d : Nat) : ∀ (k : Nat) (a b : List Int) (j : Nat), a.length = b.length → a.length ≤ j + d → j ≤ a.length → a.length ≤ 1000 → d < k →
    caucuslaw23_ints.l0 k a b (j : Int) = some (decide (a.drop j = b.drop j)) := by
  induction d with
  | zero =>
    intro k a b j hl hd hj _ hk
    obtain ⟨k, rfl⟩ : ∃ m, k = m + 1 := ⟨k - 1, by omega⟩
    simp only [caucuslaw23_ints.l0]
    rw [if_neg (by omega), List.drop_of_length_le (by omega), List.drop_of_length_le (by omega)]
    rfl
  | succ d ih =>
    intro k a b j hl hd hj hs hk
    obtain ⟨k, rfl⟩ : ∃ m, k = m + 1 := ⟨k - 1, by omega⟩
    by_cases hlt : j < a.length
    · simp only [caucuslaw23_ints.l0]
      rw [if_pos (by omega), if_pos (by omega), if_pos (by omega), rd_at a j hlt, rd_at b j (by omega), drop_at a j hlt, drop_at b j (by omega)]
      by_cases e : a[j] = b[j]'(by omega)
      · rw [if_pos e, wrap64_in' _ (by omega) (by omega)]
        have h := ih k a b (j + 1) hl (by omega) (by omega) hs (by omega)
        rw [show ((j : Int) + 1) = ((j + 1 : Nat) : Int) by omega, h, dec_eq e]
      · rw [if_neg e, dec_ne e]
    · simp only [caucuslaw23_ints.l0]
      rw [if_neg (by omega), List.drop_of_length_le (by omega), List.drop_of_length_le (by omega)]
      rfl
theorem ints23_tells (k : Nat) (a b : List Int) (ha : a.length ≤ 1000) (hk : 1000 < k) : caucuslaw23_ints.f k a b = some (decide (a = b)) := by
  unfold caucuslaw23_ints.f
  by_cases h : a.length = b.length
  · rw [if_pos (by omega)]
    exact ints23_loop a.length k a b 0 h (by omega) (by omega) ha (by omega)
  · rw [if_neg (by omega)]
    congr 1
    exact (decide_eq_false (fun e => h (by rw [e]))).symm
theorem may23_tells (k : Nat) (l : List Int) (a b : Int) (hl : l.length ≤ 1000) (hk : 1000 < k) : caucusref23_May.f k l a b = some (inc (-1) l && decide (1 ≤ a) && decide (a ≤ l.length) && decide (1 ≤ b) && decide (b ≤ 1000)) := by
  unfold caucusref23_May.f
  rw [may_tells k l hl hk]
  simp only [obind]
  cases inc (-1) l with
  | false => rw [if_neg (by decide)]; simp
  | true =>
    rw [if_pos rfl]
    by_cases h1 : a ≥ 1
    · rw [if_pos h1]
      by_cases h2 : a ≤ l.length
      · rw [if_pos h2]
        by_cases h3 : b ≥ 1
        · rw [if_pos h3]; simp [h1, h2, h3]
        · rw [if_neg h3]; simp [h1, h2]; omega
      · rw [if_neg h2]; simp [h1, h2]
    · rw [if_neg h1]; simp; omega
end Go.Proofs.YtfomajippdcaoaaDoor.PSet
namespace Go.Proofs.YtfomajippdcaoaaDoor.Sc
open Go.RowKit Go.Proofs.YtfomajippdcaoaaDoorW.PrintWords Go.Proofs.YtfomajippdcaoaaDoorW.PrintLast Go.Proofs.YtfomajippdcaoaaDoorW.PrintMore Go.Proofs.YtfomajippdcaoaaDoor.PSet
section
variable {n c n1 c1 : Nat} {A B : Option Addr} {l m : List Int} {w : World}
theorem hasr_is (b : Bool) (x : Int) (h : Rn w A n c l) (hl : n ≤ 1000) (hb : decide (0 ≤ x ∧ x < 64 ∧ x ∈ l) = b) : Calls Tryd.prog 19 #[.slice A n c, .int .i64 x] w (Told (.bool b) w) := by
  obtain ⟨h, rfl, hc⟩ := h
  exact (caucusref15_Has.calls 1001 A c l x b w h hc (by rw [hasr_tells 1001 l x hl (by omega), hb])).mono fun _ _ h => told_of h
theorem may_is (b : Bool) (h : Rn w A n c l) (hl : n ≤ 1000) (hb : inc (-1) l = b) : Calls Tryd.prog 22 #[.slice A n c] w (Told (.bool b) w) := by
  obtain ⟨h, rfl, hc⟩ := h
  exact (caucusref15_May.calls 1001 A c l b w h hc (by rw [may_tells 1001 l hl (by omega), hb])).mono fun _ _ h => told_of h
theorem some_is (how : Int) (hh : how = 0 ∨ how = 2) (h : Rn w A n c l) (hl : n ≤ 1000) (h1 : Rn w B n1 c1 m) (hl1 : n1 ≤ 1000) : Calls Tryd.prog 40 #[.slice A n c, .slice B n1 c1, .int .i64 how] w (MadeR (sel (pick how l m)) w) := by
  obtain ⟨h, rfl, hc⟩ := h
  obtain ⟨h1, rfl, hc1⟩ := h1
  exact (caucusref15_Some.calls 1101 A c l B c1 m how _ w h hc h1 hc1 (some_tells 1101 l m how hh hl hl1 (by omega))).mono fun _ _ h => made_of h
theorem same26_is (b : Bool) (h : Rn w A n c l) (hl : n ≤ 1000) (h1 : Rn w B n1 c1 m) (hb : decide (l = m) = b) : Calls Tryd.prog 48 #[.slice A n c, .slice B n1 c1] w (Told (.bool b) w) := by
  obtain ⟨h, rfl, hc⟩ := h
  obtain ⟨h1, rfl, hc1⟩ := h1
  exact (caucusref26_same.calls 1001 A c l B c1 m b w h hc h1 hc1 (by rw [same26_tells 1001 l m hl (by omega), hb])).mono fun _ _ h => told_of h
theorem ints23_is (b : Bool) (h : Rn w A n c l) (hl : n ≤ 1000) (h1 : Rn w B n1 c1 m) (hb : decide (l = m) = b) : Calls Tryd.prog 39 #[.slice A n c, .slice B n1 c1] w (Told (.bool b) w) := by
  obtain ⟨h, rfl, hc⟩ := h
  obtain ⟨h1, rfl, hc1⟩ := h1
  exact (caucuslaw23_ints.calls 1001 A c l B c1 m b w h hc h1 hc1 (by rw [ints23_tells 1001 l m hl (by omega), hb])).mono fun _ _ h => told_of h
theorem may23_is (b : Bool) (x y : Int) (h : Rn w A n c l) (hl : n ≤ 1000) (hb : (inc (-1) l && decide (1 ≤ x) && decide (x ≤ l.length) && decide (1 ≤ y) && decide (y ≤ 1000)) = b) : Calls Tryd.prog 35 #[.slice A n c, .int .i64 x, .int .i64 y] w (Told (.bool b) w) := by
  obtain ⟨h, rfl, hc⟩ := h
  exact (caucusref23_May.calls 1001 A c l x y b w h hc (by rw [may23_tells 1001 l x y hl (by omega), hb])).mono fun _ _ h => told_of h
end
end Go.Proofs.YtfomajippdcaoaaDoor.Sc
