/-
  The functions of poly and of its reference as calls with known answers, for walks by hand.
-/
import Derived.Test.YtbfgppecpkfcnaaDoorShares
namespace Go.Proofs.YtbfgppecpkfcnaaDoor.PPoly
open Go.RowKit Go.Proofs.YtbfgppecpkfcnaaDoorW.PrintWords Go.Proofs.YtbfgppecpkfcnaaDoorW.PrintLast Go.Proofs.YtbfgppecpkfcnaaDoorW.PrintMore Go.Proofs.YtbfgppecpkfcnaaDoor.PFp Go.Proofs.YtbfgppecpkfcnaaDoor.Fq


/-- n numbers; n points; n of the document's points -/
def Ns (n : Nat) (w : World) (A : Option Addr) (l : List Int) : Prop := Kd.C (Kd.int .u64) w A n l
def Ps (n : Nat) (w : World) (A : Option Addr) (l : List S74) : Prop := Kd.C k74 w A n l
def Qs (n : Nat) (w : World) (A : Option Addr) (l : List S69) : Prop := Kd.C k69 w A n l
theorem Ns.below {n : Nat} {w w1 : World} {A : Option Addr} {l : List Int} (h : Ns n w A l) (hb : Below w.heap.size w w1) : Ns n w1 A l := Kd.C_below h hb
theorem Ps.below {n : Nat} {w w1 : World} {A : Option Addr} {l : List S74} (h : Ps n w A l) (hb : Below w.heap.size w w1) : Ps n w1 A l := Kd.C_below h hb
theorem Qs.below {n : Nat} {w w1 : World} {A : Option Addr} {l : List S69} (h : Qs n w A l) (hb : Below w.heap.size w w1) : Qs n w1 A l := Kd.C_below h hb
theorem Ns.len {n : Nat} {w : World} {A : Option Addr} {l : List Int} (h : Ns n w A l) : l.length = n := h.1
theorem Ps.len {n : Nat} {w : World} {A : Option Addr} {l : List S74} (h : Ps n w A l) : l.length = n := h.1
theorem Qs.len {n : Nat} {w : World} {A : Option Addr} {l : List S69} (h : Qs n w A l) : l.length = n := h.1
theorem Ns.of_R {e base n : Nat} {ok : Nat → Prop} {v : Value} {w : World} {l : List Int} (h : Kd.R (Kd.int .u64) e w base ok v l) (hn : l.length = n) : ∃ A c, v = .slice A n c ∧ n ≤ c ∧ Ns n w A l := by
  subst hn
  exact Kd.R_reads h
theorem Ps.of_R {e base n : Nat} {ok : Nat → Prop} {v : Value} {w : World} {l : List S74} (h : Kd.R k74 e w base ok v l) (hn : l.length = n) : ∃ A c, v = .slice A n c ∧ n ≤ c ∧ Ps n w A l := by
  subst hn
  exact Kd.R_reads h
theorem Qs.of_R {e base n : Nat} {ok : Nat → Prop} {v : Value} {w : World} {l : List S69} (h : Kd.R k69 e w base ok v l) (hn : l.length = n) : ∃ A c, v = .slice A n c ∧ n ≤ c ∧ Qs n w A l := by
  subst hn
  exact Kd.R_reads h

section
variable {n : Nat} {A : Option Addr} {c : Nat} {w : World} {l : List Int} {s : List S74} {q : List S69}
theorem eval_c (k : Nat) (x r : Int) (hr : Ns n w A l) (hc : n ≤ c) (h : poly_Eval.f k l x = some r) : Calls Tryd.prog 47 #[.slice A n c, .int .u64 x] w (Ap.Told (.int .u64 r) w) := by
  obtain rfl := hr.len
  exact (poly_Eval.calls k A c l x r w hr hc h).mono fun _ _ h => Ap.told_of h
theorem reval_c (k : Nat) (x r : Int) (hr : Ns n w A l) (hc : n ≤ c) (h : caucusref03_Eval.f k l x = some r) : Calls Tryd.prog 48 #[.slice A n c, .int .u64 x] w (Ap.Told (.int .u64 r) w) := by
  obtain rfl := hr.len
  exact (caucusref03_Eval.calls k A c l x r w hr hc h).mono fun _ _ h => Ap.told_of h
theorem through_c (k : Nat) (x r : Int) (e : Option Int) (v : Value) (hv : errW e = v) (hr : Ps n w A s) (hc : n ≤ c) (h : poly_Through.f k s x = some (r, e)) : Calls Tryd.prog 42 #[.slice A n c, .int .u64 x] w (Ap.Told (.tuple #[.int .u64 r, v]) w) := by
  obtain rfl := hr.len
  subst hv
  exact poly_Through.calls k A c s x r e w hr hc h
theorem line_c (k : Nat) (x : Int) (r : Bool) (e : Option Int) (v : Value) (hv : errW e = v) (hr : Ps n w A s) (hc : n ≤ c) (h : poly_Line.f k s x = some (r, e)) : Calls Tryd.prog 44 #[.slice A n c, .int .i64 x] w (Ap.Told (.tuple #[.bool r, v]) w) := by
  obtain rfl := hr.len
  subst hv
  exact poly_Line.calls k A c s x r e w hr hc h
theorem rthrough_c (k : Nat) (x r e : Int) (hr : Qs n w A q) (hc : n ≤ c) (h : caucusref03_Through.f k q x = some (r, e)) : Calls Tryd.prog 43 #[.slice A n c, .int .u64 x] w (Ap.Told (.tuple #[.int .u64 r, .int .i64 e]) w) := by
  obtain rfl := hr.len
  exact caucusref03_Through.calls k A c q x r e w hr hc h
theorem rline_c (k : Nat) (x : Int) (r : Bool) (e : Int) (hr : Qs n w A q) (hc : n ≤ c) (h : caucusref03_Line.f k q x = some (r, e)) : Calls Tryd.prog 45 #[.slice A n c, .int .i64 x] w (Ap.Told (.tuple #[.bool r, .int .i64 e]) w) := by
  obtain rfl := hr.len
  exact caucusref03_Line.calls k A c q x r e w hr hc h
/-- a row of m numbers has come, and an error -/
def MadeW (m : Nat) (l : List Int) (v : Value) (w : World) (e : Ending) (w' : World) : Prop := ∃ B d, e = .returned (.tuple #[.slice B m d, v]) ∧ m ≤ d ∧ Ns m w' B l ∧ Below w.heap.size w w'
theorem weights_c (k m : Nat) (x : Int) (r : List Int) (e : Option Int) (v : Value) (hv : errW e = v) (hm : r.length = m) (hr : Ns n w A l) (hc : n ≤ c) (h : poly_Weights.f k l x = some (r, e)) : Calls Tryd.prog 46 #[.slice A n c, .int .u64 x] w (MadeW m r v w) := by
  obtain rfl := hr.len
  subst hv
  subst hm
  refine (poly_Weights.calls k A c l x r e w hr hc h).mono fun _ _ h => ?_
  obtain ⟨u, rfl, hR, hb⟩ := h
  obtain ⟨B, d, rfl, hd, hN⟩ := Kd.R_reads hR
  exact ⟨B, d, rfl, hd, hN, hb⟩
/-- a row of m points has come, the call's own -/
def MadeP (m : Nat) (l : List S74) (w : World) (e : Ending) (w' : World) : Prop := ∃ B d, e = .returned (.slice B m d) ∧ m ≤ d ∧ Kd.R k74 74 w' w.heap.size (fun _ => True) (.slice B m d) l ∧ Ps m w' B l ∧ Below w.heap.size w w'
theorem give_c (k : Nat) (r : List S74) (hr : Qs n w A q) (hc : n ≤ c) (hn : r.length = n) (h : caucuslaw03_giveShares.f k q = some r) : Calls Tryd.prog 41 #[.slice A n c] w (MadeP n r w) := by
  obtain rfl := hr.len
  refine (caucuslaw03_giveShares.calls k A c q r w hr hc h).mono fun _ _ h => ?_
  obtain ⟨u, rfl, hR, hb⟩ := h
  obtain ⟨B, d, rfl, hd, hN⟩ := Ps.of_R hR hn
  exact ⟨B, d, rfl, hd, hR, hN, hb⟩
end
theorem num_some (x : Int) (w : World) (hG : As.LaidG w) : Calls Tryd.prog 49 #[.iface 96 (.int .i64 x)] w (Ap.Told (.int .i64 x) w) := caucuslaw03_num.calls (some x) x w hG rfl
theorem num_nil (w : World) (hG : As.LaidG w) : Calls Tryd.prog 49 #[.nilIface] w (Ap.Told (.int .i64 0) w) := caucuslaw03_num.calls none 0 w hG rfl
theorem num_c (e : Option Int) (w : World) (v : Value) (hv : errW e = v) (hG : As.LaidG w) : Calls Tryd.prog 49 #[v] w (Ap.Told (.int .i64 (e.getD 0)) w) := by
  subst hv
  exact caucuslaw03_num.calls e (e.getD 0) w hG rfl
theorem radd_k (n m : Nat) (w : World) : Calls Tryd.prog 19 #[.int .u64 n, .int .u64 m] w (Ap.Told (.int .u64 ((c n + c m).val : Int)) w) := (caucusref01_Add.calls n m _ w (radd_c n m)).mono fun _ _ h => Ap.told_of h
theorem rmul_k (n m : Nat) (w : World) : Calls Tryd.prog 23 #[.int .u64 n, .int .u64 m] w (Ap.Told (.int .u64 ((c n * c m).val : Int)) w) := (caucusref01_Mul.calls 400 n m _ w (rmul_c 400 n m (by omega))).mono fun _ _ h => Ap.told_of h
end Go.Proofs.YtbfgppecpkfcnaaDoor.PPoly
