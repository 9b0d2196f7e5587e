/-
  Plain facts on sums of rows of eight numbers: in whatever order, and in whatever parts.
-/
import Derived.Test.YtbfgppecpkfcnaaDoorVecCalls
namespace Go.Proofs.YtbfgppecpkfcnaaDoor.Vo
open Go.RowKit Go.Proofs.YtbfgppecpkfcnaaDoorW.PrintWords Go.Proofs.YtbfgppecpkfcnaaDoor.PVec Go.Proofs.YtbfgppecpkfcnaaDoor.Vt

def Eight (l : List (List Int)) : Prop := ∀ r ∈ l, r.length = 8
def vs (o : List Int) (l : List (List Int)) : List Int := l.foldl (List.zipWith Bo.op_add) o
def z8 : List Int := List.replicate 8 0
/-- the sum of all numbers at a place -/
def cs (l : List (List Int)) (j : Nat) : Int := match l with | [] => 0 | r :: l => r.getD j 0 + cs l j
def tot (l : List (List Int)) : List Int := (List.range 8).map fun j => cs l j % 4294967296

theorem vs_len (l : List (List Int)) : ∀ (o : List Int), o.length = 8 → Eight l → (vs o l).length = 8 := by
  induction l with
  | nil => intro o h _; exact h
  | cons r l ih =>
    intro o h h8
    exact ih _ (by rw [List.length_zipWith, h, h8 r (by simp)]; rfl) (fun x hx => h8 x (by simp [hx]))
theorem sumL_vs (l : List (List Int)) : ∀ (o : List Int), o.length = 8 → Eight l → sumL o l = some (vs o l) := by
  induction l with
  | nil => intro o _ _; rfl
  | cons r l ih =>
    intro o h h8
    have hr := h8 r (by simp)
    unfold sumL
    rw [if_pos (by omega)]
    exact ih _ (by rw [List.length_zipWith, h, hr]; rfl) (fun x hx => h8 x (by simp [hx]))
theorem getD_zip (f : Int → Int → Int) (a b : List Int) (j : Nat) (ha : j < a.length) (hb : j < b.length) : (List.zipWith f a b).getD j 0 = f (a.getD j 0) (b.getD j 0) := by
  have h : j < (List.zipWith f a b).length := by rw [List.length_zipWith]; omega
  simp only [List.getD, List.getElem?_eq_getElem h, List.getElem?_eq_getElem ha, List.getElem?_eq_getElem hb, Option.getD_some, List.getElem_zipWith]
theorem vs_at (l : List (List Int)) : ∀ (o : List Int), o.length = 8 → Eight l → ∀ j, j < 8 → (vs o l).getD j 0 % 4294967296 = (o.getD j 0 + cs l j) % 4294967296 := by
  induction l with
  | nil => intro o _ _ j _; simp [vs, cs]
  | cons r l ih =>
    intro o h h8 j hj
    have hr := h8 r (by simp)
    have h1 := ih (List.zipWith Bo.op_add o r) (by rw [List.length_zipWith, h, hr]; rfl) (fun x hx => h8 x (by simp [hx])) j hj
    have e : vs o (r :: l) = vs (List.zipWith Bo.op_add o r) l := rfl
    rw [e, h1, getD_zip _ _ _ _ (by omega) (by omega)]
    unfold Bo.op_add
    show _ = (o.getD j 0 + (r.getD j 0 + cs l j)) % 4294967296
    omega
theorem vs_range (l : List (List Int)) : ∀ (o : List Int), o.length = 8 → (∀ j, j < 8 → 0 ≤ o.getD j 0 ∧ o.getD j 0 < 4294967296) → Eight l → ∀ j, j < 8 → 0 ≤ (vs o l).getD j 0 ∧ (vs o l).getD j 0 < 4294967296 := by
  induction l with
  | nil => intro o _ h _ j hj; exact h j hj
  | cons r l ih =>
    intro o h ho h8 j hj
    have hr := h8 r (by simp)
    refine ih (List.zipWith Bo.op_add o r) (by rw [List.length_zipWith, h, hr]; rfl) (fun i hi => ?_) (fun x hx => h8 x (by simp [hx])) j hj
    rw [getD_zip _ _ _ _ (by omega) (by omega)]
    unfold Bo.op_add
    omega
theorem ext8 {a b : List Int} (ha : a.length = 8) (hb : b.length = 8) (h : ∀ j, j < 8 → a.getD j 0 = b.getD j 0) : a = b := by
  apply List.ext_getElem (by omega)
  intro j h1 h2
  have := h j (by omega)
  simpa [List.getD, h1, h2] using this
theorem tot_at (l : List (List Int)) (j : Nat) (hj : j < 8) : (tot l).getD j 0 = cs l j % 4294967296 := by
  simp [tot, List.getD, hj]
theorem tot_len (l : List (List Int)) : (tot l).length = 8 := by simp [tot]
theorem z8_at (j : Nat) (hj : j < 8) : z8.getD j 0 = 0 := by
  have h : j < z8.length := by show j < 8; exact hj
  unfold List.getD
  rw [List.getElem?_eq_getElem h]
  exact List.getElem_replicate _
theorem vs_tot (l : List (List Int)) (h8 : Eight l) : vs z8 l = tot l := by
  refine ext8 (vs_len l z8 rfl h8) (tot_len l) (fun j hj => ?_)
  have h1 := vs_at l z8 rfl h8 j hj
  have h2 := vs_range l z8 rfl (fun j hj => by rw [z8_at j hj]; omega) h8 j hj
  rw [z8_at j hj] at h1
  rw [tot_at l j hj]
  omega

theorem cs_append (a b : List (List Int)) (j : Nat) : cs (a ++ b) j = cs a j + cs b j := by
  induction a with
  | nil => simp [cs]
  | cons r a ih => simp only [List.cons_append, cs, ih]; omega
theorem cs_reverse (a : List (List Int)) (j : Nat) : cs a.reverse j = cs a j := by
  induction a with
  | nil => rfl
  | cons r a ih => simp only [List.reverse_cons, cs_append, ih, cs]; omega
theorem tot_reverse (a : List (List Int)) : tot a.reverse = tot a := by
  unfold tot
  congr 1
  funext j
  rw [cs_reverse]
theorem cs_parts (l : List (List Int)) (n j : Nat) : cs (l.take n) j + cs (l.drop n) j = cs l j := by
  rw [← cs_append, List.take_append_drop]
theorem tot_add (l : List (List Int)) (n : Nat) : List.zipWith Bo.op_add (tot (l.take n)) (tot (l.drop n)) = tot l := by
  refine ext8 (by rw [List.length_zipWith, tot_len, tot_len]; rfl) (tot_len l) (fun j hj => ?_)
  rw [getD_zip _ _ _ _ (by rw [tot_len]; omega) (by rw [tot_len]; omega), tot_at _ j hj, tot_at _ j hj, tot_at _ j hj]
  have := cs_parts l n j
  unfold Bo.op_add
  omega
theorem tot_sub (l : List (List Int)) (n : Nat) : List.zipWith Bo.op_sub (tot l) (tot (l.drop n)) = tot (l.take n) := by
  refine ext8 (by rw [List.length_zipWith, tot_len, tot_len]; rfl) (tot_len _) (fun j hj => ?_)
  rw [getD_zip _ _ _ _ (by rw [tot_len]; omega) (by rw [tot_len]; omega), tot_at _ j hj, tot_at _ j hj, tot_at _ j hj]
  have := cs_parts l n j
  unfold Bo.op_sub
  omega
def tms (k : Int) (r : List Int) : List Int := List.zipWith (Bo.op_times k) r r
theorem tms_len (k : Int) (r : List Int) : (tms k r).length = r.length := by simp [tms]
theorem Eight.tms {l : List (List Int)} (k : Int) (h : Eight l) : Eight (l.map (tms k)) := by
  intro r hr
  obtain ⟨x, hx, rfl⟩ := List.mem_map.1 hr
  rw [tms_len, h x hx]
theorem cs_tms (k : Int) (l : List (List Int)) (h8 : Eight l) (j : Nat) (hj : j < 8) : cs (l.map (tms k)) j % 4294967296 = (k * cs l j) % 4294967296 := by
  induction l with
  | nil => simp [cs]
  | cons r l ih =>
    have hr := h8 r (by simp)
    have h1 := ih (fun x hx => h8 x (by simp [hx]))
    simp only [List.map_cons, cs]
    have e : (Vo.tms k r).getD j 0 = k * r.getD j 0 % 4294967296 := by
      unfold Vo.tms
      rw [getD_zip _ _ _ _ (by omega) (by omega)]
      rfl
    rw [e, Int.mul_add]
    omega
theorem tot_tms (k : Int) (l : List (List Int)) (h8 : Eight l) : tms k (tot l) = tot (l.map (tms k)) := by
  refine ext8 (by rw [tms_len, tot_len]) (tot_len _) (fun j hj => ?_)
  unfold tms
  rw [getD_zip _ _ _ _ (by rw [tot_len]; omega) (by rw [tot_len]; omega), tot_at _ j hj, tot_at _ j hj]
  have h1 := cs_tms k l h8 j hj
  unfold tms at h1
  rw [h1]
  unfold Bo.op_times
  rw [Int.mul_emod, Int.emod_emod, ← Int.mul_emod]
theorem sum_tells (k : Nat) (l : List (List Int)) (h8 : Eight l) (hl : l.length ≤ 1000) (hk : 1000 < k) : vec_Sum.f k l 8 = some (tot l, none) := by
  rw [vsum_tells k l 8 hl hk]
  have : sumN l 8 = some (tot l) := by
    unfold sumN
    rw [if_pos (by omega)]
    have := sumL_vs l z8 rfl h8
    rw [vs_tot l h8] at this
    exact this
  rw [this]
  rfl
end Go.Proofs.YtbfgppecpkfcnaaDoor.Vo
