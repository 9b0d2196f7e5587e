/-
  The law PolyKnown, walked.
-/
import Derived.Test.YtbfgppecpkfcnaaDoorPolySure
import Derived.Test.YtbfgppecpkfcnaaDoorPolyFacts5
import Derived.LoopTactic
namespace Go.Proofs.YtbfgppecpkfcnaaDoor.PPoly
open Go.RowKit Go.Proofs.YtbfgppecpkfcnaaDoorW.PrintWords Go.Proofs.YtbfgppecpkfcnaaDoorW.PrintLast Go.Proofs.YtbfgppecpkfcnaaDoorW.PrintMore Go.Proofs.YtbfgppecpkfcnaaDoor.PFp Go.Proofs.YtbfgppecpkfcnaaDoor.Fq

/-! ### the plain law -/
/-- the curve's own points -/
def own (L : List Nat) (r m : Nat) : List (Nat × Nat) := (List.range m).map fun i => (i + 1 + r, (ev (L.map c) (c (i + 1 + r))).val)
theorem own_len (L : List Nat) (r m : Nat) : (own L r m).length = m := by simp [own]
theorem own_at (L : List Nat) (r m j : Nat) (h : j < (own L r m).length) : (own L r m)[j] = (j + 1 + r, (ev (L.map c) (c (j + 1 + r))).val) := by
  simp [own]
theorem own_next (L : List Nat) (r j : Nat) : p74 (own L r (j + 1)) = p74 (own L r j) ++ [(⟨((j + 1 + r : Nat) : Int), ((ev (L.map c) (c (j + 1 + r))).val : Int)⟩ : S74)] := by
  unfold own
  rw [List.range_succ, List.map_append]
  unfold p74
  rw [List.map_append]
  rfl
theorem own_U (L : List Nat) (r m : Nat) (hr : r < 256) (hm : m ≤ 12) : PtU (own L r m) := by
  constructor
  · intro x hx
    simp only [pX, own, List.map_map, List.mem_map, List.mem_range] at hx
    obtain ⟨i, hi, rfl⟩ := hx
    show i + 1 + r < _
    omega
  · intro x hx
    simp only [pY, own, List.map_map, List.mem_map, List.mem_range] at hx
    obtain ⟨i, hi, rfl⟩ := hx
    exact kv _
theorem c_small {a b : Nat} (ha : a < 300) (hb : b < 300) (h : c a = c b) : a = b := by
  have h := c_iff.1 h
  unfold PP at h
  omega
theorem pX_nodup (l : List (Nat × Nat)) (hs : ∀ s ∈ l, s.1 < 300) (hn : (l.map (·.1)).Nodup) : ((pX l).map c).Nodup := by
  unfold pX List.Nodup at *
  rw [List.pairwise_map, List.pairwise_map]
  rw [List.pairwise_map] at hn
  refine hn.imp_of_mem ?_
  intro a b ha hb hne he
  exact hne (c_small (hs a ha) (hs b hb) he)
theorem own_small (L : List Nat) (r m : Nat) (hr : r < 256) (hm : m ≤ 12) : ∀ s ∈ own L r m, s.1 < 300 := by
  intro s hs
  simp only [own, List.mem_map, List.mem_range] at hs
  obtain ⟨i, hi, rfl⟩ := hs
  show i + 1 + r < _
  omega
theorem own_nodup (L : List Nat) (r m : Nat) : ((own L r m).map (·.1)).Nodup := by
  have e : (own L r m).map (·.1) = (List.range m).map (fun i => i + 1 + r) := by
    simp [own, Function.comp_def]
  rw [e]
  unfold List.Nodup
  rw [List.pairwise_map]
  refine List.nodup_range.imp ?_
  intro a b h
  omega
theorem own_curve (L : List Nat) (r m : Nat) : ∀ s ∈ own L r m, c s.2 = ev (L.map c) (c s.1) := by
  intro s hs
  simp only [own, List.mem_map, List.mem_range] at hs
  obtain ⟨i, hi, rfl⟩ := hs
  exact c_of_val _
/-- any of the curve's own points are places, and tell it -/
theorem sub_apart (L : List Nat) (r m : Nat) (hr : r < 256) (hm : m ≤ 12) (l : List (Nat × Nat)) (hl : l.Sublist (own L r m)) : apC (pX l) = none := by
  refine apC_of ?_ (pX_nodup l (fun s hs => own_small L r m hr hm s (hl.subset hs)) ((own_nodup L r m).sublist (hl.map _)))
  have := hl.length_le
  rw [own_len] at this
  rw [pX_len]
  omega
theorem sub_thr (L : List Nat) (r m : Nat) (hr : r < 256) (hm : m ≤ 12) (l : List (Nat × Nat)) (hl : l.Sublist (own L r m)) (hn : L.length ≤ l.length) (t : K) : thr (kX l) (kY l) t = ev (L.map c) t :=
  thr_curve (L.map c) l (apC_none (sub_apart L r m hr hm l hl)).2 (by simpa using hn) (fun s hs => own_curve L r m s (hl.subset hs)) t
theorem known_through (k : Nat) (L : List Nat) (r m : Nat) (hr : r < 256) (hm : m ≤ 12) (l : List (Nat × Nat)) (hl : l.Sublist (own L r m)) (hn : L.length ≤ l.length) (t : Nat) (ht : t < 18446744073709551616) (hk : 1300 < k) :
    poly_Through.f k (p74 l) (t : Int) = some (((ev (L.map c) (c t)).val : Int), none) := by
  have hU : PtU l := ⟨fun x hx => (own_U L r m hr hm).1 x ((hl.map _).subset hx), fun x hx => (own_U L r m hr hm).2 x ((hl.map _).subset hx)⟩
  rw [through_tells k l hU t ht (sub_apart L r m hr hm l hl) hk, sub_thr L r m hr hm l hl hn]
theorem known_line (k : Nat) (L : List Nat) (r : Nat) (hr : r < 256) (hm : L.length ≤ 10) (hk : 1500 < k) : poly_Line.f k (p74 (own L r (L.length + 2))) (L.length : Int) = some (true, none) := by
  rw [line_tells k _ (own_U L r _ hr (by omega)) _ hk]
  unfold lineC
  rw [if_neg (by rw [own_len]; omega), sub_apart L r _ hr (by omega) _ (List.Sublist.refl _)]
  have e : firsts (own L r (L.length + 2)) (L.length : Int) = L.length := by
    unfold firsts mn
    rw [own_len]
    split <;> omega
  show some (lineB _ _, none) = _
  rw [e]
  have : lineB (own L r (L.length + 2)) L.length = true := by
    unfold lineB
    rw [List.all_eq_true]
    intro s hs
    have hs2 := List.mem_of_mem_drop hs
    rw [decide_eq_true_iff, sub_thr L r _ hr (by omega) _ (List.take_sublist _ _) (by rw [List.length_take, own_len]; omega), own_curve L r _ s hs2]
  rw [this]
/-- the same, but for the last one -/
def bent (L : List Nat) (r : Nat) : List (Nat × Nat) := own L r (L.length + 1) ++ [(L.length + 1 + 1 + r, ((ev (L.map c) (c (L.length + 1 + 1 + r))).val + 1) % PP)]
theorem bent_line (k : Nat) (L : List Nat) (r : Nat) (hr : r < 256) (hm : L.length ≤ 10) (hk : 1500 < k) : poly_Line.f k (p74 (bent L r)) (L.length : Int) = some (false, none) := by
  have hx : pX (bent L r) = pX (own L r (L.length + 2)) := by
    unfold bent own
    rw [List.range_succ (n := L.length + 1), List.map_append]
    unfold pX
    rw [List.map_append, List.map_append]
    rfl
  have hlen : (bent L r).length = L.length + 2 := by
    unfold bent
    rw [List.length_append, own_len]
    rfl
  have hU : PtU (bent L r) := by
    refine ⟨by rw [hx]; exact (own_U L r _ hr (by omega)).1, ?_⟩
    intro x hx
    unfold bent pY at hx
    rw [List.map_append, List.mem_append] at hx
    rcases hx with hx | hx
    · exact (own_U L r _ hr (by omega)).2 x hx
    · simp only [List.map_cons, List.map_nil, List.mem_singleton] at hx
      subst hx
      have := Nat.mod_lt ((ev (L.map c) (c (L.length + 1 + 1 + r))).val + 1) PP_pos
      unfold PP at *
      omega
  rw [line_tells k _ hU _ hk]
  unfold lineC
  rw [if_neg (by rw [hlen]; omega), hx, sub_apart L r _ hr (by omega) _ (List.Sublist.refl _)]
  have e : firsts (bent L r) (L.length : Int) = L.length := by
    unfold firsts mn
    rw [hlen]
    split <;> omega
  show some (lineB _ _, none) = _
  rw [e]
  have ht : (bent L r).take L.length = (own L r (L.length + 1)).take L.length := by
    unfold bent
    rw [List.take_append_of_le_length (by rw [own_len]; omega)]
  have : lineB (bent L r) L.length = false := by
    unfold lineB
    rw [List.all_eq_false]
    refine ⟨(L.length + 1 + 1 + r, ((ev (L.map c) (c (L.length + 1 + 1 + r))).val + 1) % PP), ?_, ?_⟩
    · unfold bent
      rw [List.drop_append_of_le_length (by rw [own_len]; omega)]
      simp
    · rw [decide_eq_true_iff, ht, sub_thr L r (L.length + 1) hr (by omega) _ (List.take_sublist _ _) (by rw [List.length_take, own_len]; omega)]
      intro h
      have h2 : c ((ev (L.map c) (c (L.length + 1 + 1 + r))).val + 1) = ev (L.map c) (c (L.length + 1 + 1 + r)) := (c_mod _).symm.trans h.symm
      rw [c_add, c_of_val, c_one] at h2
      exact one_ne ((show ∀ y : K, y + 1 = y → (1 : K) = 0 from fun y hy => (show y + 1 - y = (1 : K) from by grind).symm.trans (by rw [hy]; exact k_sub_self y)) _ h2)
  rw [this]
end Go.Proofs.YtbfgppecpkfcnaaDoor.PPoly
