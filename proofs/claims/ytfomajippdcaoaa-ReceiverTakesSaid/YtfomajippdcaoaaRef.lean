/-
  The document's receiver (caucusref18.Take), walked.
-/
import Derived.Test.YtfomajippdcaoaaOnce
import Derived.RegionTactic
import Derived.ChangeAlike
namespace Go.Proofs.Ytfomajippdcaoaa.Rc
open Go.RowKit Go.Proofs.YtfomajippdcaoaaW.PrintWords

theorem bal {w W : World} (h : Below w.heap.size w W) (o : Obj) : Below w.heap.size w (W.alloc o) := h.alloc h.size o
theorem bdr {w W : World} (h : Below w.heap.size w W) : Below w.heap.size w W.drew := h.drew

def ROut (e s : Int) (is : Bool) (far : Int) (w : World) (x : Ending) (w' : World) : Prop :=
  x = .returned (.tuple #[.agg #[.int .i64 e, .int .i64 s], .bool is, .int .i64 far]) ∧ Below w.heap.size w w'

theorem ref_old (e s a b : Int) (w : World) (h : a < e ∨ a < 1 ∨ 1073741824 < a ∨ b < 1 ∨ 1073741824 < b) :
    Calls Try.prog 9 #[.agg #[.int .i64 e, .int .i64 s], .int .i64 a, .int .i64 b] w (ROut e s false (-1) w) := by
  by_cases h1 : a < e
  · clear h
    go_enter Try.func9, Try.ntmps9
    go_wp2
    exact bodyPost_ret (v := .tuple #[.agg #[.int .i64 e, .int .i64 s], .bool false, .int .i64 (-1)]) (by simp [results, Try.results9, go_sem]) rfl ⟨rfl, bal (bal (Below.refl _ _) _) _⟩
  · by_cases h2 : a < 1
    · clear h
      go_enter Try.func9, Try.ntmps9
      go_wp2
      exact bodyPost_ret (v := .tuple #[.agg #[.int .i64 e, .int .i64 s], .bool false, .int .i64 (-1)]) (by simp [results, Try.results9, go_sem]) rfl ⟨rfl, bal (bal (Below.refl _ _) _) _⟩
    · by_cases h3 : 1073741824 < a
      · clear h
        go_enter Try.func9, Try.ntmps9
        go_wp2
        exact bodyPost_ret (v := .tuple #[.agg #[.int .i64 e, .int .i64 s], .bool false, .int .i64 (-1)]) (by simp [results, Try.results9, go_sem]) rfl ⟨rfl, bal (bal (Below.refl _ _) _) _⟩
      · by_cases h4 : b < 1
        · clear h
          go_enter Try.func9, Try.ntmps9
          go_wp2
          exact bodyPost_ret (v := .tuple #[.agg #[.int .i64 e, .int .i64 s], .bool false, .int .i64 (-1)]) (by simp [results, Try.results9, go_sem]) rfl ⟨rfl, bal (bal (Below.refl _ _) _) _⟩
        · have h5 : 1073741824 < b := by omega
          clear h
          go_enter Try.func9, Try.ntmps9
          go_wp2
          exact bodyPost_ret (v := .tuple #[.agg #[.int .i64 e, .int .i64 s], .bool false, .int .i64 (-1)]) (by simp [results, Try.results9, go_sem]) rfl ⟨rfl, bal (bal (Below.refl _ _) _) _⟩

theorem ref_new1 (e s a b : Int) (w : World) (h1 : 1 ≤ a) (h2 : a ≤ 1073741824) (h3 : 1 ≤ b) (h4 : b ≤ 1) (h5 : e < a) :
    Calls Try.prog 9 #[.agg #[.int .i64 e, .int .i64 s], .int .i64 a, .int .i64 b] w (ROut a b true b w) := by
  go_enter Try.func9, Try.ntmps9
  go_wp2
  exact bodyPost_ret (v := .tuple #[.agg #[.int .i64 a, .int .i64 b], .bool true, .int .i64 b]) (by simp [results, Try.results9, go_sem]) rfl ⟨rfl, bal (bal (Below.refl _ _) _) _⟩

theorem ref_next (e s b : Int) (w : World) (h1 : 1 ≤ e) (h2 : e ≤ 1073741824) (h3 : 1 ≤ b) (h4 : b ≤ 1073741824) (h6 : b ≤ s + 1) (h7 : s + 1 ≤ b) :
    Calls Try.prog 9 #[.agg #[.int .i64 e, .int .i64 s], .int .i64 e, .int .i64 b] w (ROut e b true b w) := by
  go_enter Try.func9, Try.ntmps9
  go_wp2
  exact bodyPost_ret (v := .tuple #[.agg #[.int .i64 e, .int .i64 b], .bool true, .int .i64 b]) (by simp [results, Try.results9, go_sem]) rfl ⟨rfl, bal (bal (Below.refl _ _) _) _⟩

theorem ref_new0 (e s a b : Int) (w : World) (h1 : 1 ≤ a) (h2 : a ≤ 1073741824) (h3 : 1 < b) (h4 : b ≤ 1073741824) (h5 : e < a) :
    Calls Try.prog 9 #[.agg #[.int .i64 e, .int .i64 s], .int .i64 a, .int .i64 b] w (ROut a 0 false 0 w) := by
  go_enter Try.func9, Try.ntmps9
  go_wp2
  go_region
  all_goals go_wp2
  all_goals exact bodyPost_ret (v := .tuple #[.agg #[.int .i64 a, .int .i64 0], .bool false, .int .i64 0]) (by simp [results, Try.results9, go_sem]) rfl ⟨rfl, by repeat (first | exact Below.refl _ _ | apply bal | apply bdr)⟩

theorem ref_stay (e s b : Int) (w : World) (h1 : 1 ≤ e) (h2 : e ≤ 1073741824) (h3 : 1 ≤ b) (h4 : b ≤ 1073741824) (hs : 0 ≤ s) (hs2 : s ≤ 1073741824) (h6 : (b == s + 1) = false) :
    Calls Try.prog 9 #[.agg #[.int .i64 e, .int .i64 s], .int .i64 e, .int .i64 b] w (ROut e s false s w) := by
  go_enter Try.func9, Try.ntmps9
  go_wp2
  go_region
  all_goals go_wp2
  all_goals exact bodyPost_ret (v := .tuple #[.agg #[.int .i64 e, .int .i64 s], .bool false, .int .i64 s]) (by simp [results, Try.results9, go_sem]) rfl ⟨rfl, by repeat (first | exact Below.refl _ _ | apply bal | apply bdr)⟩

theorem ref_any (e s a b e' s' far : Int) (is : Bool) (w : World) (hs : 0 ≤ s) (hs2 : s ≤ 1073741824) (ht : tk e s a b = (e', s', is, far)) :
    Calls Try.prog 9 #[.agg #[.int .i64 e, .int .i64 s], .int .i64 a, .int .i64 b] w (ROut e' s' is far w) := by
  by_cases h1 : a < 1 ∨ 1073741824 < a ∨ b < 1 ∨ 1073741824 < b ∨ a < e
  · have h2 : tk e s a b = (e, s, false, -1) := by unfold tk; rw [if_pos h1]
    rw [h2] at ht
    obtain ⟨rfl, rfl, rfl, rfl⟩ : e = e' ∧ s = s' ∧ false = is ∧ -1 = far := by simpa using ht
    exact ref_old e s a b w (by omega)
  · by_cases h3 : e < a
    · by_cases h4 : b ≤ 1
      · have h2 : tk e s a b = (a, b, true, b) := by unfold tk; rw [if_neg h1, if_pos h3, if_pos (by omega)]
        rw [h2] at ht
        obtain ⟨rfl, rfl, rfl, rfl⟩ : a = e' ∧ b = s' ∧ true = is ∧ b = far := by simpa using ht
        exact ref_new1 e s a b w (by omega) (by omega) (by omega) h4 h3
      · have h2 : tk e s a b = (a, 0, false, 0) := by unfold tk; rw [if_neg h1, if_pos h3, if_neg (by omega)]
        rw [h2] at ht
        obtain ⟨rfl, rfl, rfl, rfl⟩ : a = e' ∧ 0 = s' ∧ false = is ∧ 0 = far := by simpa using ht
        exact ref_new0 e s a b w (by omega) (by omega) (by omega) (by omega) h3
    · have h5 : a = e := by omega
      subst h5
      by_cases h4 : b = s + 1
      · have h2 : tk a s a b = (a, b, true, b) := by unfold tk; rw [if_neg h1, if_neg h3, if_pos h4]
        rw [h2] at ht
        obtain ⟨rfl, rfl, rfl, rfl⟩ : a = e' ∧ b = s' ∧ true = is ∧ b = far := by simpa using ht
        exact ref_next a s b w (by omega) (by omega) (by omega) (by omega) (by omega) (by omega)
      · have h2 : tk a s a b = (a, s, false, s) := by unfold tk; rw [if_neg h1, if_neg h3, if_neg h4]
        rw [h2] at ht
        obtain ⟨rfl, rfl, rfl, rfl⟩ : a = e' ∧ s = s' ∧ false = is ∧ s = far := by simpa using ht
        exact ref_stay a s b w (by omega) (by omega) (by omega) (by omega) hs hs2 (beq_eq_false_iff_ne.mpr h4)
end Go.Proofs.Ytfomajippdcaoaa.Rc
