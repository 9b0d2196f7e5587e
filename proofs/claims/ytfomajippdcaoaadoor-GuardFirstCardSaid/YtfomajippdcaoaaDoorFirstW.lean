/-
  The walk of GuardFirst, all ways.
-/
import Derived.Test.YtfomajippdcaoaaDoorFirst
import Derived.OpenShut
namespace Go.Proofs.YtfomajippdcaoaaDoor.Gu
open Go.RowKit Go.Proofs.YtfomajippdcaoaaDoorW.PrintWords Go.Proofs.YtfomajippdcaoaaDoor.PSet Go.Proofs.YtfomajippdcaoaaDoor.Sc

theorem first_all (A B1 B2 : Option Addr) (n c m1 d1 m2 d2 : Nat) (who came other : List Int) (k : Int) (hk0 : 0 ≤ k) (hk1 : k < 256) (w : World) (hG : As.LaidG w) (hw : Rn w A n c who) (hr1 : Rn w B1 m1 d1 came) (hr2 : Rn w B2 m2 d2 other) :
    Calls Tryd.prog 6 #[.slice A n c, .agg #[.slice B1 m1 d1, .slice B2 m2 d2], .int .u8 k] w (Sc.Told (.bool true) w) := by
  by_cases h0 : n = 0
  · exact first_zero A B1 B2 n c m1 d1 m2 d2 k w hG h0
  · by_cases hn : 64 < n
    · exact first_who A B1 B2 n c m1 d1 m2 d2 k w hG hn
    · by_cases hm : 64 < m1
      · exact first_came A B1 B2 n c m1 d1 m2 d2 k w hG (by omega) hn hm
      · by_cases hm2 : 64 < m2
        · exact first_other A B1 B2 n c m1 d1 m2 d2 k w hG (by omega) hn hm hm2
        · have hp : 0 < n := by omega
          cases hi : inc (-1) who with
          | false => exact first_new A B1 B2 n c m1 d1 m2 d2 who came other k w hG hp hn hm hm2 hk0 hk1 hw hr1 hr2 hi
          | true =>
            by_cases hb1 : Bad who (1 + k % n) [] false came
            · by_cases hb2 : Bad who (1 + k % n) [] false other
              · exact first_bb A B1 B2 n c m1 d1 m2 d2 who came other k w hG hp hn hm hm2 hk0 hk1 hw hr1 hr2 hi hb1 hb2
              · exact first_bg A B1 B2 n c m1 d1 m2 d2 who came other k w hG hp hn hm hm2 hk0 hk1 hw hr1 hr2 hi hb1 hb2
            · by_cases hb2 : Bad who (1 + k % n) came true other
              · exact first_gb A B1 B2 n c m1 d1 m2 d2 who came other k w hG hp hn hm hm2 hk0 hk1 hw hr1 hr2 hi hb1 hb2
              · have he : came = other := Classical.byContradiction fun h => hb2 (Or.inr (Or.inr (Or.inr ⟨rfl, fun e => h e.symm⟩)))
                exact first_gg A B1 B2 n c m1 d1 m2 d2 who came other k w hG hp hn hm hm2 hk0 hk1 hw hr1 hr2 hi hb1 he
end Go.Proofs.YtfomajippdcaoaaDoor.Gu
namespace Go.Proofs.YtfomajippdcaoaaDoor.Gu
open Go.RowKit Go.Proofs.YtfomajippdcaoaaDoorW.PrintWords
theorem first_wf (_ : True) (A : Option Addr) (ca : Nat) (who : List Int) (B1 B2 : Option Addr) (cb1 cb2 : Nat) (came other : List Int) (k : Int) (w : World) (hG : As.LaidG w)
    (C0 : (Kd.int .i64).C w A who.length who) (D0 : who.length ≤ ca) (_ : ca ≤ maxLen) (_ : ∀ x ∈ who, (Lit.int .i64 x).wf = true)
    (C1 : (Kd.int .i64).C w B1 came.length came) (D1 : came.length ≤ cb1) (_ : ∀ x ∈ came, (Lit.int .i64 x).wf = true)
    (E1 : (Kd.int .i64).C w B2 other.length other) (F1 : other.length ≤ cb2) (_ : ∀ x ∈ other, (Lit.int .i64 x).wf = true)
    (w2 : (Lit.int .u8 k).wf = true) :
    Calls Tryd.prog 6 #[.slice A who.length ca, .agg #[.slice B1 came.length cb1, .slice B2 other.length cb2], .int .u8 k] w fun x w' => x = .returned (.bool true) ∧ Below w.heap.size w w' := by
  have b2 := bounds_u8 w2
  exact first_all A B1 B2 who.length ca came.length cb1 other.length cb2 who came other k b2.1 (by omega) w hG ⟨C0, rfl, D0⟩ ⟨C1, rfl, D1⟩ ⟨E1, rfl, F1⟩
end Go.Proofs.YtfomajippdcaoaaDoor.Gu
