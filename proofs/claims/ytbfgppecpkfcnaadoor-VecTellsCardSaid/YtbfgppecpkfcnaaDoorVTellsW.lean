/-
  The walk of VecTells, all cases, over slices and an array as lists.
-/
import Derived.Test.YtbfgppecpkfcnaaDoorVTells
import Derived.OpenShut
namespace Go.Proofs.YtbfgppecpkfcnaaDoor.Vt
open Go.RowKit Go.Proofs.YtbfgppecpkfcnaaDoorW.PrintWords

set_option maxRecDepth 100000 in
set_option maxHeartbeats 1000000 in
theorem tells_longA (A B : Option Addr) (ca cb n m : Nat) (f g : Int) (hn : 100 < n) (w : World) (hG : As.LaidG w) :
    Calls Tryd.prog 6 #[.slice A n ca, .slice B m cb, .agg #[.int .u32 f, .int .u32 g]] w fun e w' => e = .returned (.bool true) ∧ Below w.heap.size w w' := by
  have q1 : decide (100 < (n : Int)) = true := decide_eq_true (by omega)
  have q2 : decide (100 < n) = true := decide_eq_true (by omega)
  clear hn
  have HG := Aside0.mk (As.LaidG.below hG (below_alloc (Below.refl w.heap.size w) (.cells #[.int .u32 f, .int .u32 g] 37)))
  clear hG
  go_enter Tryd.func6, Tryd.ntmps6
  go_wp2_with (go_at_call 29; (with_reducible refine (sure_is _ HG.out).mono ?_); rintro e w1 ⟨rfl, hb⟩; have HB := Aside0.mk hb; clear hb)
  go_ret
  exact ⟨rfl, below_step (below_alloc (Below.refl _ _) _) HB.out⟩
set_option maxRecDepth 100000 in
set_option maxHeartbeats 1000000 in
theorem tells_longB (A B : Option Addr) (ca cb n m : Nat) (f g : Int) (hn : ¬ 100 < n) (hm : 100 < m) (w : World) (hG : As.LaidG w) :
    Calls Tryd.prog 6 #[.slice A n ca, .slice B m cb, .agg #[.int .u32 f, .int .u32 g]] w fun e w' => e = .returned (.bool true) ∧ Below w.heap.size w w' := by
  have q1 : decide (100 < (n : Int)) = false := decide_eq_false (by omega)
  have q2 : decide (100 < n) = false := decide_eq_false (by omega)
  have p1 : decide (100 < (m : Int)) = true := decide_eq_true (by omega)
  have p2 : decide (100 < m) = true := decide_eq_true (by omega)
  clear hn hm
  have HG := Aside0.mk (As.LaidG.below hG (below_alloc (Below.refl w.heap.size w) (.cells #[.int .u32 f, .int .u32 g] 37)))
  clear hG
  go_enter Tryd.func6, Tryd.ntmps6
  go_wp2_with (go_at_call 29; (with_reducible refine (sure_is _ HG.out).mono ?_); rintro e w1 ⟨rfl, hb⟩; have HB := Aside0.mk hb; clear hb)
  go_ret
  exact ⟨rfl, below_step (below_alloc (Below.refl _ _) _) HB.out⟩

theorem tells_all (A B : Option Addr) (ca cb n m : Nat) (a b : List Int) (f g : Int) (hg0 : 0 ≤ g) (hg1 : g < 4294967296) (hf0 : 0 ≤ f) (hf1 : f < 4294967296) (hca : n ≤ ca) (hcb : m ≤ cb) (w : World) (hG : As.LaidG w) (hra : Rn n w A a) (hrb : Rn m w B b) :
    Calls Tryd.prog 6 #[.slice A n ca, .slice B m cb, .agg #[.int .u32 f, .int .u32 g]] w fun e w' => e = .returned (.bool true) ∧ Below w.heap.size w w' := by
  by_cases h1 : 100 < n
  · exact tells_longA A B ca cb n m f g h1 w hG
  · by_cases h2 : 100 < m
    · exact tells_longB A B ca cb n m f g h1 h2 w hG
    · by_cases hz : g % 40 ≤ 32
      · by_cases h3 : n ≤ 32
        · by_cases h4 : n = m
          · exact tells_oks A B ca cb n m a b f g h3 h4 hz (by omega) (by omega) hg0 hg1 hf0 hf1 hca hcb w hG hra hrb
          · exact tells_nos A B ca cb n m a b f g h3 h4 hz (by omega) (by omega) hg0 hg1 hf0 hf1 hca hcb w hG hra hrb
        · exact tells_bigs A B ca cb n m a b f g h3 hz (by omega) (by omega) hg0 hg1 hf0 hf1 hca hcb w hG hra hrb
      · by_cases h3 : n ≤ 32
        · by_cases h4 : n = m
          · exact tells_okl A B ca cb n m a b f g h3 h4 hz (by omega) (by omega) hg0 hg1 hf0 hf1 hca hcb w hG hra hrb
          · exact tells_nol A B ca cb n m a b f g h3 h4 hz (by omega) (by omega) hg0 hg1 hf0 hf1 hca hcb w hG hra hrb
        · exact tells_bigl A B ca cb n m a b f g h3 hz (by omega) (by omega) hg0 hg1 hf0 hf1 hca hcb w hG hra hrb

theorem two {l : List Int} (h : l.length = 2) : ∃ a b, l = [a, b] := by
  match l, h with
  | [a, b], _ => exact ⟨a, b, rfl⟩
theorem tells_wf (_ : True) (A : Option Addr) (ca : Nat) (a : List Int) (B : Option Addr) (cb : Nat) (b : List Int) (l2 : List Int) (w : World) (hG : As.LaidG w)
    (C0 : (Kd.int .u32).C w A a.length a) (D0 : a.length ≤ ca) (_ : ca ≤ maxLen) (_ : ∀ x ∈ a, (Lit.int .u32 x).wf = true)
    (C1 : (Kd.int .u32).C w B b.length b) (D1 : b.length ≤ cb) (_ : cb ≤ maxLen) (_ : ∀ x ∈ b, (Lit.int .u32 x).wf = true)
    (n2 : l2.length = 2) (w2 : ∀ x ∈ l2, (Lit.int .u32 x).wf = true) :
    Calls Tryd.prog 6 #[.slice A a.length ca, .slice B b.length cb, .agg (l2.map (Value.int .u32)).toArray] w fun x w' => x = .returned (.bool true) ∧ Below w.heap.size w w' := by
  obtain ⟨f, g, rfl⟩ := two n2
  have hf := bounds_u32 (w2 f (by simp))
  have hg := bounds_u32 (w2 g (by simp))
  exact tells_all A B ca cb a.length b.length a b f g hg.1 (by omega) hf.1 (by omega) D0 D1 w hG ⟨C0, rfl⟩ ⟨C1, rfl⟩
end Go.Proofs.YtbfgppecpkfcnaaDoor.Vt
