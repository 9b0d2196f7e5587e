/-
  The law PolySums, walked.
-/
import Derived.Test.YtbfgppecpkfcnaaDoorKnownW
import Derived.Deep.QuietTactic
import Derived.BigQuiet
import Derived.Deep.RegionWith
import Derived.Deep.RegionHeld3
import Derived.Deep.DeepCutAuto
import Derived.Deep.CutBlock
namespace Go.Proofs.YtbfgppecpkfcnaaDoor.PPoly
open Go.RowKit Go.Proofs.YtbfgppecpkfcnaaDoorW.PrintWords Go.Proofs.YtbfgppecpkfcnaaDoorW.PrintLast Go.Proofs.YtbfgppecpkfcnaaDoorW.PrintMore Go.Proofs.YtbfgppecpkfcnaaDoor.PFp Go.Proofs.YtbfgppecpkfcnaaDoor.Fq

def arr (L : List Nat) : Array Value := ((nl L).map (Value.int .u64)).toArray
theorem arr_row {w : World} {g T : Nat} {L : List Nat} (h : w.heap[g]? = some (.cells (arr L) T (0, 0))) (hl : L.length ≤ 1000) : Ns L.length w (some ⟨g, 0, none⟩) (nl L) := by
  refine Kd.C_of_reads (enc := Value.int .u64) (d := (0 : Int)) (h1 := fun _ => rfl) ⟨nl_len L, by omega, fun _ => ⟨⟨g, 0, none⟩, rfl, fun j hj => ?_⟩⟩
  rw [Addr.add_lit, Nat.zero_add]
  simp [World.cell?, h, arr, nl, hj]
theorem arr_cell {w : World} {g T : Nat} {L : List Nat} (h : w.heap[g]? = some (.cells (arr L) T (0, 0))) (j : Nat) (hj : j < L.length) : w.cell? ⟨g, j, none⟩ = some (.int .u64 (L[j] : Int)) := by
  simp [World.cell?, h, arr, nl, hj]

def Box (w : World) (g : Nat) (v : Array Value) (T : Nat) : Prop := w.heap[g]? = some (.cells v T (0, 0))
theorem Box.below {w w1 : World} {g T : Nat} {v : Array Value} (h : Box w g v T) (hb : Below w.heap.size w w1) : Box w1 g v T := by
  have hlt : g < w.heap.size := by
    rcases Nat.lt_or_ge g w.heap.size with h1 | h1
    · exact h1
    · unfold Box at h
      rw [Array.getElem?_eq_none h1] at h
      cases h
  exact (hb.block g hlt).trans h
theorem three_boxes (w : World) (va vb vx : Array Value) : Box (((w.alloc (.cells va 76)).alloc (.cells vb 76)).alloc (.cells vx 77)) w.heap.size va 76 ∧ Box (((w.alloc (.cells va 76)).alloc (.cells vb 76)).alloc (.cells vx 77)) (w.heap.size + 1) vb 76 ∧
    Box (((w.alloc (.cells va 76)).alloc (.cells vb 76)).alloc (.cells vx 77)) (w.heap.size + 1 + 1) vx 77 ∧ Below w.heap.size w (((w.alloc (.cells va 76)).alloc (.cells vb 76)).alloc (.cells vx 77)) := by
  have e1 : (w.alloc (.cells va 76)).heap.size = w.heap.size + 1 := by simp
  have e2 : ((w.alloc (.cells va 76)).alloc (.cells vb 76)).heap.size = w.heap.size + 1 + 1 := by simp
  have h1 : Box (w.alloc (.cells va 76)) w.heap.size va 76 := heap_alloc_new w _
  have h2 : Box ((w.alloc (.cells va 76)).alloc (.cells vb 76)) (w.heap.size + 1) vb 76 := by rw [← e1]; exact heap_alloc_new _ _
  have h3 : Box (((w.alloc (.cells va 76)).alloc (.cells vb 76)).alloc (.cells vx 77)) (w.heap.size + 1 + 1) vx 77 := by rw [← e2]; exact heap_alloc_new _ _
  exact ⟨(h1.below (below_alloc (Below.refl _ _) _)).below (below_alloc (Below.refl _ _) _), h2.below (below_alloc (Below.refl _ _) _), h3, below_alloc (below_alloc (below_alloc (Below.refl _ _) _) _) _⟩
theorem box_two {w : World} {g T : Nat} {a b : Value} (h : Box w g #[a, b] T) : w.cell? ⟨g, 0, none⟩ = some a ∧ w.cell? ⟨g, 1, none⟩ = some b := by
  unfold Box at h
  constructor <;> simp [World.cell?, h]
/-- two own rows, side by side -/
structure Two (w0 w : World) (v u : Value) (xs ys : List Int) : Prop where
  r1 : Kd.R (Kd.int .u64) 22 w w0.heap.size (fun _ => True) v xs
  r2 : Kd.R (Kd.int .u64) 22 w w0.heap.size (fun _ => True) u ys
  ne : ∀ k, v.ownBlock = some k → u.ownBlock ≠ some k
  bel : Below w0.heap.size w0 w
theorem R_keep {w w' : World} {base : Nat} {row : Option Nat} {v : Value} {xs : List Int} (h : Kd.R (Kd.int .u64) 22 w base (fun _ => True) v xs) (hg : w.grownBy w' row) (hne : v.ownBlock = none ∨ v.ownBlock ≠ row) : Kd.R (Kd.int .u64) 22 w' base (fun _ => True) v xs := by
  obtain ⟨h1, inner, hown, hr⟩ := h
  exact ⟨h1, inner, hown.kept hg hne, hr⟩
theorem R_lt {w : World} {base : Nat} {v : Value} {xs : List Int} (h : Kd.R (Kd.int .u64) 22 w base (fun _ => True) v xs) (k : Nat) (e : v.ownBlock = some k) : k < w.heap.size := by
  obtain ⟨h1, inner, hown, hr⟩ := h
  exact (hown.lt k e).2
theorem Two.nil (w : World) : Two w w (.slice none 0 0) (.slice none 0 0) [] [] := ⟨Kd.R_nil _ _ _ _ _, Kd.R_nil _ _ _ _ _, (fun k h => by cases h), Below.refl _ _⟩
theorem Two.below {w0 w w1 : World} {v u : Value} {xs ys : List Int} (h : Two w0 w v u xs ys) (hb : Below w.heap.size w w1) : Two w0 w1 v u xs ys :=
  ⟨Kd.R_below h.r1 hb, Kd.R_below h.r2 hb, h.ne, below_step h.bel hb⟩
theorem Two.swap {w0 w : World} {v u : Value} {xs ys : List Int} (h : Two w0 w v u xs ys) : Two w0 w u v ys xs :=
  ⟨h.r2, h.r1, fun k e e2 => h.ne k e2 e, h.bel⟩
theorem Two.app {w0 w w1 : World} {v v1 u : Value} {xs ys zs : List Int} (h : Two w0 w v u xs ys) (ho : Kd.R (Kd.int .u64) 22 w1 w0.heap.size (fun _ => True) v1 zs) (hb : Below w0.heap.size w0 w1) (hg : w.grownBy w1 v.ownBlock) (hat : v1.ownBlock = v.ownBlock ∨ ∃ b, v1.ownBlock = some b ∧ w.heap.size ≤ b) : Two w0 w1 v1 u zs ys := by
  refine ⟨ho, R_keep h.r2 hg ?_, ?_, hb⟩
  · cases hu : u.ownBlock with
    | none => exact Or.inl rfl
    | some k => exact Or.inr (fun e => h.ne k e.symm hu)
  · intro k hk hu
    rcases hat with e | ⟨b, e, hb2⟩
    · exact h.ne k (by rw [← e]; exact hk) hu
    · rw [e] at hk
      injection hk with hk
      have := R_lt h.r2 k hu
      omega

def sumL (La Lb : List Nat) : List Nat := List.zipWith (fun a b => (c a + c b).val) La Lb
def timesL (La : List Nat) (k : Nat) : List Nat := La.map fun a => (c a * c k).val
theorem Ns.own {w : World} {base m : Nat} {ok : Nat → Prop} {v : Value} {l : List Int} (h : Kd.R (Kd.int .u64) 22 w base ok v l) (hm : l.length = m) (h0 : 0 < m) : ∃ g c, v = .slice (some ⟨g, 0, none⟩) m c ∧ m ≤ c ∧ Ns m w (some ⟨g, 0, none⟩) l := by
  subst hm
  obtain ⟨A, c, e, hc, hC⟩ := Kd.R_reads h
  obtain ⟨_, inner, hown, _⟩ := h
  rcases hown.2 with ⟨_, h2⟩ | ⟨g, cap, cur, hv, _⟩
  · omega
  · rw [e] at hv
    injection hv with ha _ hc2
    subst ha
    exact ⟨g, c, e, hc, hC⟩
theorem Ns.cell {w : World} {m g : Nat} {l : List Int} (h : Ns m w (some ⟨g, 0, none⟩) l) (j : Nat) (hj : j < m) : w.cell? ⟨g, j, none⟩ = some (.int .u64 (l.getD j 0)) := by
  obtain ⟨ad, e, hc⟩ := Ap.row_cell h j hj
  cases e
  rw [Addr.add_lit, Nat.zero_add] at hc
  exact hc
/-- a row of m numbers has come that lies by itself, and no error -/
def MadeG (m : Nat) (l : List Int) (w : World) (e : Ending) (w' : World) : Prop := ∃ g d, e = .returned (.tuple #[.slice (some ⟨g, 0, none⟩) m d, .nilIface]) ∧ Ns m w' (some ⟨g, 0, none⟩) l ∧ Below w.heap.size w w'
theorem weights_g {n m c : Nat} {A : Option Addr} {l : List Int} {w : World} (k : Nat) (x : Int) (r : List Int) (hm : r.length = m) (h0 : 0 < m) (hr : Ns n w A l) (hc : n ≤ c) (h : poly_Weights.f k l x = some (r, none)) : Calls Tryd.prog 46 #[.slice A n c, .int .u64 x] w (MadeG m r w) := by
  obtain rfl := hr.len
  refine (poly_Weights.calls k A c l x r none w hr hc h).mono fun _ _ h => ?_
  obtain ⟨u, rfl, hR, hb⟩ := h
  obtain ⟨g, d, rfl, _, hN⟩ := Ns.own hR hm h0
  exact ⟨g, d, rfl, hN, hb⟩
theorem eval_d {n cp : Nat} {A : Option Addr} {l : List Int} {w : World} (k : Nat) (x r : Int) (hr : Ns n w A l) (hc : n ≤ cp) (h : poly_Eval.f k l x = some r) : Calls Tryd.prog 47 #[.slice A n cp, .int .u64 x] w fun e w' => e = .returned (.int .u64 r) ∧ Drawn0 w w' := by
  obtain rfl := hr.len
  exact poly_Eval.calls k A cp l x r w hr hc h
theorem radd_d (a b r : Int) (w : World) (h : caucusref01_Add.f a b = some r) : Calls Tryd.prog 19 #[.int .u64 a, .int .u64 b] w fun e w' => e = .returned (.int .u64 r) ∧ Drawn0 w w' := caucusref01_Add.calls a b r w h
theorem rmul_d (a b r : Int) (w : World) (h : caucusref01_Mul.f 400 a b = some r) : Calls Tryd.prog 23 #[.int .u64 a, .int .u64 b] w fun e w' => e = .returned (.int .u64 r) ∧ Drawn0 w w' := caucusref01_Mul.calls 400 a b r w h
/-! ### the plain law -/
def X4 : List Nat := [1, 2, 3, 4]
theorem x4_apart : apC X4 = none := by
  refine apC_of (by decide) ?_
  unfold List.Nodup X4
  simp only [List.map_cons, List.map_nil, List.pairwise_cons, List.mem_cons, List.not_mem_nil, or_false]
  refine ⟨?_, ?_, ?_, ?_, List.Pairwise.nil⟩
  · rintro a (rfl | rfl | rfl) <;> (intro h; have := c_small (by omega) (by omega) h; omega)
  · rintro a (rfl | rfl) <;> (intro h; have := c_small (by omega) (by omega) h; omega)
  · rintro a rfl; intro h; have := c_small (by omega) (by omega) h; omega
  · intro a h; cases h
theorem x4_U : LtU X4 := by
  intro x hx
  simp only [X4, List.mem_cons, List.not_mem_nil, or_false] at hx
  rcases hx with rfl | rfl | rfl | rfl <;> omega
theorem x4_sum (t : K) : lag (X4.map c) 0 t + lag (X4.map c) 1 t + (lag (X4.map c) 2 t + lag (X4.map c) 3 t) = 1 := by
  have hn := (apC_none x4_apart).2
  have h := thr_uniq (X4.map c) [1, 1, 1, 1] hn (fun _ => 1) ((D.const 1).up.up.up) (fun m hm => ?_) t
  · have e : thr (X4.map c) [1, 1, 1, 1] t = 0 + lag (X4.map c) 0 t * 1 + lag (X4.map c) 1 t * 1 + lag (X4.map c) 2 t * 1 + lag (X4.map c) 3 t * 1 := rfl
    rw [e] at h
    generalize lag (X4.map c) 0 t = a at *
    generalize lag (X4.map c) 1 t = b at *
    generalize lag (X4.map c) 2 t = d at *
    generalize lag (X4.map c) 3 t = f at *
    grind
  · have hm4 : m < 4 := hm
    match m, hm4 with
    | 0, _ => rfl
    | 1, _ => rfl
    | 2, _ => rfl
    | 3, _ => rfl
theorem x4_at (t : K) : nl (lags (X4.map c) t) = [((lag (X4.map c) 0 t).val : Int), ((lag (X4.map c) 1 t).val : Int), ((lag (X4.map c) 2 t).val : Int), ((lag (X4.map c) 3 t).val : Int)] := rfl
theorem x4_three : nl (lags (X4.map c) (c 3)) = [0, 0, 1, 0] := by
  have hn := (apC_none x4_apart).2
  rw [x4_at]
  have e : c 3 = (X4.map c).getD 2 0 := rfl
  rw [e, lag_other (X4.map c) 0 2 (by decide) (by decide), lag_other (X4.map c) 1 2 (by decide) (by decide), lag_self (X4.map c) hn 2 (by decide), lag_other (X4.map c) 3 2 (by decide) (by decide)]
  rfl
theorem ev_sum : ∀ (La Lb : List Nat) (t : K), La.length = Lb.length → ev ((sumL La Lb).map c) t = ev (La.map c) t + ev (Lb.map c) t
  | [], [], t, _ => by simp only [sumL, List.zipWith_nil_left, List.map_nil, ev]; rfl
  | a :: La, b :: Lb, t, h => by
    have ih := ev_sum La Lb t (by simpa using h)
    simp only [sumL, List.zipWith_cons_cons, List.map_cons, ev, c_of_val] at ih ⊢
    rw [ih]
    grind
  | [], _ :: _, _, h => by simp at h
  | _ :: _, [], _, h => by simp at h
theorem ev_times (La : List Nat) (k : Nat) (t : K) : ev ((timesL La k).map c) t = ev (La.map c) t * c k := by
  induction La with
  | nil => simp only [timesL, List.map_nil, ev]; exact ((show ∀ y : K, 0 * y = 0 from fun y => by grind) _).symm
  | cons a La ih =>
    simp only [timesL, List.map_cons, ev, c_of_val] at ih ⊢
    rw [ih]
    grind

theorem nl_next (L : List Nat) (j : Nat) (h : j < L.length) : nl (L.take (j + 1)) = nl (L.take j) ++ [(L[j] : Int)] := by
  rw [take_next L j h]
  unfold nl
  rw [List.map_append]
  rfl
theorem sum_next (La Lb : List Nat) (j : Nat) (ha : j < La.length) (hb : j < Lb.length) : nl ((sumL La Lb).take (j + 1)) = nl ((sumL La Lb).take j) ++ [((c La[j] + c Lb[j]).val : Int)] := by
  rw [nl_next _ _ (by unfold sumL; rw [List.length_zipWith]; omega)]
  simp [sumL]
theorem times_next (La : List Nat) (k j : Nat) (ha : j < La.length) : nl ((timesL La k).take (j + 1)) = nl ((timesL La k).take j) ++ [((c La[j] * c k).val : Int)] := by
  rw [nl_next _ _ (by unfold timesL; rw [List.length_map]; omega)]
  simp [timesL]

set_option maxRecDepth 100000 in
set_option maxHeartbeats 2000000 in
set_option linter.unusedSimpArgs false in
theorem sums_go (La Lb : List Nat) (x k : Nat) (ha : La.length = 5) (hb : Lb.length = 5) (hUa : LtU La) (hUb : LtU Lb) (hx : x < 18446744073709551616) (hk : k < 18446744073709551616) (w : World) (hG : As.LaidG w) :
    Calls Tryd.prog 12 #[.agg (arr La), .agg (arr Lb), .agg #[.int .u64 x, .int .u64 k]] w (Ap.Told (.bool true) w) := by
  obtain ⟨va, hva⟩ : ∃ v, v = arr La := ⟨_, rfl⟩
  obtain ⟨vb, hvb⟩ : ∃ v, v = arr Lb := ⟨_, rfl⟩
  rw [← hva, ← hvb]
  have HG := Aside0.mk hG
  have VA := Aside0.mk hva
  have VB := Aside0.mk hvb
  have HA := Aside0.mk ha
  have HBL := Aside0.mk hb
  have UA := Aside0.mk hUa
  have UB := Aside0.mk hUb
  have HX := Aside0.mk hx
  have HK := Aside0.mk hk
  clear hG hva hvb ha hb hUa hUb hx hk
  go_enter Tryd.func12, Tryd.ntmps12
  go_upto_region 1 with (fail)
  obtain ⟨b1, b2, b3, b4⟩ := three_boxes w va vb #[.int .u64 (x : Int), .int .u64 (k : Int)]
  have BA := Aside0.mk b1
  have BB := Aside0.mk b2
  have B0 := Aside0.mk b4
  obtain ⟨c0, c1⟩ := box_two b3
  clear b1 b2 b3 b4
  generalize (((w.alloc (Obj.cells va 76)).alloc (Obj.cells vb 76)).alloc (Obj.cells #[Value.int IntKind.u64 (x : Int), Value.int IntKind.u64 (k : Int)] 77)) = w3 at *
  go_quiet (fail)
  go_wp2
  have T1_ := Aside0.mk (BA.out.below (pw_below_drewN (Below.refl _ _) nq)); clear BA; have BA := T1_; clear T1_
  have T1_ := Aside0.mk (BB.out.below (pw_below_drewN (Below.refl _ _) nq)); clear BB; have BB := T1_; clear T1_
  have T1_ := Aside0.mk (below_step B0.out (pw_below_drewN (Below.refl _ _) nq)); clear B0; have B0 := T1_; clear T1_
  clear c0 c1
  generalize (w3.drewN nq) = w4 at *
  go_loopw [9, 10, 11] (fun v9 v10 v11 wr => ∃ (j : Nat), v11 = .int .i64 j ∧ j ≤ 5 ∧ Aside0 (Two w4 wr v9 v10 (nl ((sumL La Lb).take j)) (nl ((timesL La k).take j)))) (fun _ _ v _ => 20 - (intOf v).toNat)
  case atStart => exact ⟨0, rfl, by omega, ⟨Two.nil _⟩⟩
  case round =>
    obtain ⟨j, rfl, hj, TW⟩ := hrel
    by_cases hlt : (j : Int) < 5
    · have hj5 : j < 5 := by omega
      have SN : Aside0 (nl ((sumL La Lb).take (j + 1)) = nl ((sumL La Lb).take j) ++ [((c (La[j]'(by have := HA.out; omega)) + c (Lb[j]'(by have := HBL.out; omega))).val : Int)]) := ⟨sum_next La Lb j _ _⟩
      have TN : Aside0 (nl ((timesL La k).take (j + 1)) = nl ((timesL La k).take j) ++ [((c (La[j]'(by have := HA.out; omega)) * c k).val : Int)]) := ⟨times_next La k j _⟩
      have XA : Aside0 (w4.cell? ⟨w.heap.size, j, none⟩ = some (.int .u64 (La[j]'(by have := HA.out; omega) : Int))) := ⟨arr_cell (by rw [← VA.out]; exact BA.out) j _⟩
      have XB : Aside0 (w4.cell? ⟨w.heap.size + 1, j, none⟩ = some (.int .u64 (Lb[j]'(by have := HBL.out; omega) : Int))) := ⟨arr_cell (by rw [← VB.out]; exact BB.out) j _⟩
      generalize (La[j]'_) = p at *
      generalize (Lb[j]'_) = q at *
      have LS : Aside0 ((nl ((sumL La Lb).take j)).length ≤ 5) := ⟨by rw [nl_len, List.length_take]; omega⟩
      have LT : Aside0 ((nl ((timesL La k).take j)).length ≤ 5) := ⟨by rw [nl_len, List.length_take]; omega⟩
      generalize e1 : nl ((sumL La Lb).take (j + 1)) = s2 at *
      generalize e2 : nl ((timesL La k).take (j + 1)) = t2 at *
      generalize nl ((sumL La Lb).take j) = s1 at *
      generalize nl ((timesL La k).take j) = t1 at *
      have E1 := Aside0.mk e1
      have E2 := Aside0.mk e2
      have HJ := Aside0.mk hj5
      clear e1 e2
      go_upto_region 6 with (fail)
      have T1_ := Aside0.mk (TW.out.below (below_drew1 (Below.refl _ _))); clear TW; have TW := T1_; clear T1_
      refine start_ (n := 11) (S := fun w' => w'.cell? ⟨w.heap.size, j, none⟩ = some (.int .u64 (p : Int)) ∧ w'.cell? ⟨w.heap.size + 1, j, none⟩ = some (.int .u64 (q : Int))) (ds := []) #[false, false, false, false, false, false, false, false, false, false, false] (by kernel_rfl) rfl rfl ⟨(TW.out.bel.cell (World.block_lt_of_cell? _ _ XA.out)).trans XA.out, (TW.out.bel.cell (World.block_lt_of_cell? _ _ XB.out)).trans XB.out⟩ (fun hHeld => ?_)
      generalize wr.drew = w11 at TW hHeld ⊢
      refine pure_ (i := 0) (N := some 25) (v := ?_) (a' := ?_) #[true, false, false, false, false, false, false, false, false, false, false] rfl rfl (by kernel_rfl) (fun _ _ _ h => h) (Or.inl ⟨by rfl, ?_⟩) ?_ ?_
      rotate_left
      · intro w'
        go_simp
        with_reducible rfl
      rotate_left
      · simp only [Act.put, List.setIfInBounds_toArray, List.set_cons_zero, List.set_cons_succ, i64_w, i32_w]
        rfl
      refine pure_ (i := 1) (N := some 26) (v := ?_) (a' := ?_) #[true, true, false, false, false, false, false, false, false, false, false] rfl rfl (by kernel_rfl) (fun _ _ _ h => h) (Or.inl ⟨by rfl, ?_⟩) ?_ ?_
      rotate_left
      · intro w'
        go_simp
        with_reducible rfl
      rotate_left
      · simp only [Act.put, List.setIfInBounds_toArray, List.set_cons_zero, List.set_cons_succ, i64_w, i32_w]
        rfl
      refine pure_ (i := 2) (N := some 27) (v := ?_) (a' := ?_) #[true, true, true, false, false, false, false, false, false, false, false] rfl rfl (by kernel_rfl) (fun _ _ _ h => h) (Or.inl ⟨by rfl, ?_⟩) ?_ ?_
      rotate_left
      · intro w'
        go_simp
        with_reducible rfl
      rotate_left
      · simp only [Act.put, List.setIfInBounds_toArray, List.set_cons_zero, List.set_cons_succ, i64_w, i32_w]
        rfl
      refine take_ (i := 3) (N := some 28) (v := ?_) (a' := ?_) #[true, true, true, true, false, false, false, false, false, false, false] rfl rfl (by kernel_rfl) (fun _ _ _ h => h) (Or.inl ⟨by rfl, ?_⟩) hHeld ?_ ?_
      rotate_left
      · rintro w' ⟨s0, s1⟩
        go_simp
        with_reducible rfl
      rotate_left
      · simp only [Act.put, List.setIfInBounds_toArray, List.set_cons_zero, List.set_cons_succ, i64_w, i32_w]
        rfl
      refine pure_ (i := 4) (N := some 29) (v := ?_) (a' := ?_) #[true, true, true, true, true, false, false, false, false, false, false] rfl rfl (by kernel_rfl) (fun _ _ _ h => h) (Or.inl ⟨by rfl, ?_⟩) ?_ ?_
      rotate_left
      · intro w'
        go_simp
        with_reducible rfl
      rotate_left
      · simp only [Act.put, List.setIfInBounds_toArray, List.set_cons_zero, List.set_cons_succ, i64_w, i32_w]
        rfl
      refine pure_ (i := 5) (N := some 30) (v := ?_) (a' := ?_) #[true, true, true, true, true, true, false, false, false, false, false] rfl rfl (by kernel_rfl) (fun _ _ _ h => h) (Or.inl ⟨by rfl, ?_⟩) ?_ ?_
      rotate_left
      · intro w'
        go_simp
        with_reducible rfl
      rotate_left
      · simp only [Act.put, List.setIfInBounds_toArray, List.set_cons_zero, List.set_cons_succ, i64_w, i32_w]
        rfl
      refine take_ (i := 6) (N := some 31) (v := ?_) (a' := ?_) #[true, true, true, true, true, true, true, false, false, false, false] rfl rfl (by kernel_rfl) (fun _ _ _ h => h) (Or.inl ⟨by rfl, ?_⟩) hHeld ?_ ?_
      rotate_left
      · rintro w' ⟨s0, s1⟩
        go_simp
        with_reducible rfl
      rotate_left
      · simp only [Act.put, List.setIfInBounds_toArray, List.set_cons_zero, List.set_cons_succ, i64_w, i32_w]
        rfl
      refine one_ (i := 7) (N := some 32) #[true, true, true, true, true, true, true, true, false, false, false] rfl rfl (by kernel_rfl) (by decide) (fun K hK => ?_)
      refine goes_ Tryd.func19 (by kernel_rfl) rfl #[.int .u64 p, .int .u64 q] (by rfl) rfl rfl (by (try simp only [List.map_toArray, List.map_cons, List.map_nil]); first | done | rfl) ?_
      with_reducible refine (radd_k p q _).mono ?_
      rintro e_ w_ ⟨rfl, hb⟩
      refine ⟨_, rfl, ?_⟩
      have T1_ := Aside0.mk (TW.out.below hb)
      clear TW hb
      have TW := T1_
      clear T1_
      refine hK.out _ _ ⟨(TW.out.bel.cell (World.block_lt_of_cell? _ _ XA.out)).trans XA.out, (TW.out.bel.cell (World.block_lt_of_cell? _ _ XB.out)).trans XB.out⟩ (fun hHeld => ?_)
      clear hK K
      refine norm_ (a' := ?_) ?_ ?_
      rotate_left
      · show Act.put _ (some 32) _ = _
        simp only [Act.put, List.setIfInBounds_toArray, List.set_cons_zero, List.set_cons_succ, i64_w, i32_w]
        rfl
      refine one_ (i := 8) (N := some 33) #[true, true, true, true, true, true, true, true, true, false, false] rfl rfl (by kernel_rfl) (by decide) (fun K hK => ?_)
      refine value_ (w1 := ?_) (v := ?_) (by rfl) rfl ?_ ?_
      rotate_left 2
      · go_simp
        constructor
        · rfl
        · rfl
      refine hK.out _ _ ⟨((TW.out.below (below_alloc (Below.refl _ _) _)).bel.cell (World.block_lt_of_cell? _ _ XA.out)).trans XA.out, ((TW.out.below (below_alloc (Below.refl _ _) _)).bel.cell (World.block_lt_of_cell? _ _ XB.out)).trans XB.out⟩ (fun hHeld => ?_)
      clear hK K
      refine norm_ (a' := ?_) ?_ ?_
      rotate_left
      · show Act.put _ (some 33) _ = _
        simp only [Act.put, List.setIfInBounds_toArray, List.set_cons_zero, List.set_cons_succ, i64_w, i32_w]
        rfl
      refine one_ (i := 9) (N := some 34) #[true, true, true, true, true, true, true, true, true, true, false] rfl rfl (by kernel_rfl) (by decide) (fun K hK => ?_)
      refine Kd.R_append_step (Kd.int .u64) (w0 := w4) w4.heap.size (by rfl) (.tmp 25) (.tmp 33) 55 22 (.int .u64 0) 8 rfl Tryd.underlying55 info22 rfl (by decide) (by omega) u9 s1 ((c p + c q).val : Int) [.int .u64 ((c p + c q).val : Int)] (fun _ => True) (fun _ => False) rfl rfl ?aP (fun _ hk => hk.elim) ?aF ?aO ?aB ?aS ?aL ?_
      (case aP => exact rfl)
      (case aB => exact TW.out.bel)
      (case aF => exact (fun _ _ => trivial))
      (case aO => exact TW.out.r1)
      (case aS => exact TW.out.bel.size)
      (case aL => have := LS.out; omega)
      intro v1_ w1_ ho hb hg hat
      rw [← SN.out] at ho
      have T1_ := Aside0.mk (TW.out.app ho hb hg hat)
      clear TW ho hb hg hat
      have TW := T1_
      clear T1_
      refine hK.out _ _ ⟨(TW.out.bel.cell (World.block_lt_of_cell? _ _ XA.out)).trans XA.out, (TW.out.bel.cell (World.block_lt_of_cell? _ _ XB.out)).trans XB.out⟩ (fun hHeld => ?_)
      clear hK K
      refine norm_ (a' := ?_) ?_ ?_
      rotate_left
      · show Act.put _ (some 34) _ = _
        simp only [Act.put, List.setIfInBounds_toArray, List.set_cons_zero, List.set_cons_succ, i64_w, i32_w]
        rfl
      refine pure_ (i := 10) (N := some 9) (v := ?_) (a' := ?_) #[true, true, true, true, true, true, true, true, true, true, true] rfl rfl (by kernel_rfl) (fun _ _ _ h => h) (Or.inl ⟨by rfl, ?_⟩) ?_ ?_
      rotate_left
      · intro w'
        go_simp
        with_reducible rfl
      rotate_left
      · simp only [Act.put, List.setIfInBounds_toArray, List.set_cons_zero, List.set_cons_succ, i64_w, i32_w]
        rfl
      refine done_ (by kernel_rfl) ?_
      have TW6 := TW
      have xa := (TW.out.bel.cell (World.block_lt_of_cell? _ _ XA.out)).trans XA.out
      go_wp2_with (first | (go_at_call 23; (with_reducible refine (rmul_k p k _).mono ?_); rintro e_ w_ ⟨rfl, hb⟩; have T1_ := Aside0.mk (TW.out.below hb); clear TW; have TW := T1_; clear T1_ hb) | ((with_reducible refine gate_builtin (b := .append) (xs := #[.tmp 35, .tmp 41]) rfl ?_); at_builtin; refine Kd.R_append (Kd.int .u64) (w0 := w4) w4.heap.size rfl (.tmp 35) (.tmp 41) 55 22 (.int .u64 0) 8 rfl Tryd.underlying55 info22 rfl (by decide) (by omega) u10 t1 ((c p * c k).val : Int) [.int .u64 ((c p * c k).val : Int)] (fun _ => True) (fun _ => False) rfl rfl ?aP (fun _ hk => hk.elim) ?aF ?aO ?aB ?aS ?aL ?_; (case aP => exact rfl); (case aB => exact TW.out.bel); (case aF => exact (fun _ _ => trivial)); (case aO => exact TW.out.r2); (case aS => exact TW.out.bel.size); (case aL => have := LT.out; omega); intro v1_ w1_ ho hb hg hat; rw [← TN.out] at ho; have T1_ := Aside0.mk ((TW.out.swap.app ho hb hg hat).swap); clear TW ho hb hg hat; have TW := T1_; clear T1_))
      go_roundw
      case rel => exact ⟨j + 1, by go_num, by have := HJ.out; omega, by rw [E1.out, E2.out]; exact TW⟩
      case measure => simp [intOf]; have := HJ.out; omega
    · obtain rfl : j = 5 := by omega
      have lS : (sumL La Lb).length = 5 := by unfold sumL; rw [List.length_zipWith]; have := HA.out; have := HBL.out; omega
      have lT : (timesL La k).length = 5 := by unfold timesL; rw [List.length_map]; exact HA.out
      rw [List.take_of_length_le (by omega), List.take_of_length_le (by omega)] at TW
      have hxx := HX.out
      have US : LtU (sumL La Lb) := by
        intro v hv
        obtain ⟨i, hi, rfl⟩ := List.mem_iff_getElem.1 hv
        simp only [sumL, List.getElem_zipWith]
        exact kv _
      have UT : LtU (timesL La k) := by
        intro v hv
        obtain ⟨a, _, rfl⟩ := List.mem_map.1 hv
        exact kv _
      have ES : Aside0 (poly_Eval.f 1001 (nl (sumL La Lb)) (x : Int) = some ((ev (La.map c) (c x) + ev (Lb.map c) (c x)).val : Int)) := ⟨by rw [eval_tells 1001 _ US (by omega) x hxx (by omega), ev_sum La Lb (c x) (by have := HA.out; have := HBL.out; omega)]⟩
      have ET : Aside0 (poly_Eval.f 1001 (nl (timesL La k)) (x : Int) = some ((ev (La.map c) (c x) * c k).val : Int)) := ⟨by rw [eval_tells 1001 _ UT (by omega) x hxx (by omega), ev_times La k (c x)]⟩
      have EA : Aside0 (poly_Eval.f 1001 (nl La) (x : Int) = some ((ev (La.map c) (c x)).val : Int)) := ⟨eval_tells 1001 _ UA.out (by have := HA.out; omega) x hxx (by omega)⟩
      have EB : Aside0 (poly_Eval.f 1001 (nl Lb) (x : Int) = some ((ev (Lb.map c) (c x)).val : Int)) := ⟨eval_tells 1001 _ UB.out (by have := HBL.out; omega) x hxx (by omega)⟩
      have AD : Aside0 (caucusref01_Add.f ((ev (La.map c) (c x)).val : Int) ((ev (Lb.map c) (c x)).val : Int) = some ((ev (La.map c) (c x) + ev (Lb.map c) (c x)).val : Int)) := ⟨by rw [radd_c, c_of_val, c_of_val]⟩
      have MU : Aside0 (caucusref01_Mul.f 400 ((ev (La.map c) (c x)).val : Int) (k : Int) = some ((ev (La.map c) (c x) * c k).val : Int)) := ⟨by rw [rmul_c 400 _ _ (by omega), c_of_val]⟩
      have WX : Aside0 (poly_Weights.f 1400 [1, 2, 3, 4] (x : Int) = some ([((lag (X4.map c) 0 (c x)).val : Int), ((lag (X4.map c) 1 (c x)).val : Int), ((lag (X4.map c) 2 (c x)).val : Int), ((lag (X4.map c) 3 (c x)).val : Int)], none)) := ⟨weights_tells 1400 X4 x4_U x hxx x4_apart (by omega)⟩
      have WT : Aside0 (poly_Weights.f 1400 [1, 2, 3, 4] 3 = some ([0, 0, 1, 0], none)) := ⟨by rw [← x4_three]; exact weights_tells 1400 X4 x4_U 3 (by omega) x4_apart (by omega)⟩
      have S1 : Aside0 (caucusref01_Add.f ((lag (X4.map c) 0 (c x)).val : Int) ((lag (X4.map c) 1 (c x)).val : Int) = some ((lag (X4.map c) 0 (c x) + lag (X4.map c) 1 (c x)).val : Int)) := ⟨by rw [radd_c, c_of_val, c_of_val]⟩
      have S2 : Aside0 (caucusref01_Add.f ((lag (X4.map c) 2 (c x)).val : Int) ((lag (X4.map c) 3 (c x)).val : Int) = some ((lag (X4.map c) 2 (c x) + lag (X4.map c) 3 (c x)).val : Int)) := ⟨by rw [radd_c, c_of_val, c_of_val]⟩
      have S3 : Aside0 (caucusref01_Add.f ((lag (X4.map c) 0 (c x) + lag (X4.map c) 1 (c x)).val : Int) ((lag (X4.map c) 2 (c x) + lag (X4.map c) 3 (c x)).val : Int) = some 1) := ⟨by rw [radd_c, c_of_val, c_of_val, x4_sum]; rfl⟩
      generalize ((lag (X4.map c) 0 (c x) + lag (X4.map c) 1 (c x)).val : Int) = o5 at *
      generalize ((lag (X4.map c) 2 (c x) + lag (X4.map c) 3 (c x)).val : Int) = o6 at *
      generalize ((lag (X4.map c) 0 (c x)).val : Int) = o1 at *
      generalize ((lag (X4.map c) 1 (c x)).val : Int) = o2 at *
      generalize ((lag (X4.map c) 2 (c x)).val : Int) = o3 at *
      generalize ((lag (X4.map c) 3 (c x)).val : Int) = o4 at *
      generalize ((ev (La.map c) (c x) + ev (Lb.map c) (c x)).val : Int) = zs at *
      generalize ((ev (La.map c) (c x) * c k).val : Int) = zt at *
      generalize ((ev (La.map c) (c x)).val : Int) = za at *
      generalize ((ev (Lb.map c) (c x)).val : Int) = zb at *
      obtain ⟨gs, ds, rfl, hds, hNs⟩ := Ns.own (m := 5) TW.out.r1 (by rw [nl_len]; exact lS) (by omega)
      obtain ⟨gt, dt, rfl, hdt, hNt⟩ := Ns.own (m := 5) TW.out.r2 (by rw [nl_len]; exact lT) (by omega)
      have RS := Aside0.mk hNs
      have RT := Aside0.mk hNt
      have CS := Aside0.mk hds
      have CT := Aside0.mk hdt
      have B4 := TW.out.bel
      have RA : Aside0 (Ns 5 wr (some ⟨w.heap.size, 0, none⟩) (nl La)) := ⟨by have h := arr_row (L := La) (show Box w4 w.heap.size (arr La) 76 by rw [← VA.out]; exact BA.out) (by have := HA.out; omega); rw [HA.out] at h; exact Ns.below h B4⟩
      have RB : Aside0 (Ns 5 wr (some ⟨w.heap.size + 1, 0, none⟩) (nl Lb)) := ⟨by have h := arr_row (L := Lb) (show Box w4 (w.heap.size + 1) (arr Lb) 76 by rw [← VB.out]; exact BB.out) (by have := HBL.out; omega); rw [HBL.out] at h; exact Ns.below h B4⟩
      have HB := Aside0.mk (below_step B0.out B4)
      clear TW hNs hNt hds hdt lS lT US UT hxx hlt hj B4
      go_upto_region 8 with (fail)
      go_quiet (first | (go_at_call 47; (with_reducible refine (eval_d 1001 x zs ?s1 CS.out ES.out).mono ?_); (case s1 => first | exact RS.out | exact RS.out.below (pw_below_drewN (Below.refl _ _) _)); rintro e w' ⟨rfl, ⟨nd, rfl⟩⟩; (try first | exact ⟨rfl, _, World.drewN_drewN _ _ _⟩ | exact ⟨rfl, _, Eq.trans (World.drewN_drewN _ _ _) (congrArg (World.drewN _) (Nat.add_assoc _ _ _))⟩)) | (go_at_call 47; (with_reducible refine (eval_d 1001 x zt ?s1 CT.out ET.out).mono ?_); (case s1 => first | exact RT.out | exact RT.out.below (pw_below_drewN (Below.refl _ _) _)); rintro e w' ⟨rfl, ⟨nd, rfl⟩⟩; (try first | exact ⟨rfl, _, World.drewN_drewN _ _ _⟩ | exact ⟨rfl, _, Eq.trans (World.drewN_drewN _ _ _) (congrArg (World.drewN _) (Nat.add_assoc _ _ _))⟩)) | (go_at_call 47; (with_reducible refine (eval_d 1001 x za ?s1 (Nat.le_refl 5) EA.out).mono ?_); (case s1 => first | exact RA.out | exact RA.out.below (pw_below_drewN (Below.refl _ _) _)); rintro e w' ⟨rfl, ⟨nd, rfl⟩⟩; (try first | exact ⟨rfl, _, World.drewN_drewN _ _ _⟩ | exact ⟨rfl, _, Eq.trans (World.drewN_drewN _ _ _) (congrArg (World.drewN _) (Nat.add_assoc _ _ _))⟩)) | (go_at_call 47; (with_reducible refine (eval_d 1001 x zb ?s1 (Nat.le_refl 5) EB.out).mono ?_); (case s1 => first | exact RB.out | exact RB.out.below (pw_below_drewN (Below.refl _ _) _)); rintro e w' ⟨rfl, ⟨nd, rfl⟩⟩; (try first | exact ⟨rfl, _, World.drewN_drewN _ _ _⟩ | exact ⟨rfl, _, Eq.trans (World.drewN_drewN _ _ _) (congrArg (World.drewN _) (Nat.add_assoc _ _ _))⟩)) | (go_at_call 19; (with_reducible refine (radd_d za zb zs _ AD.out).mono ?_); rintro e w' ⟨rfl, ⟨nd, rfl⟩⟩; (try first | exact ⟨rfl, _, World.drewN_drewN _ _ _⟩ | exact ⟨rfl, _, Eq.trans (World.drewN_drewN _ _ _) (congrArg (World.drewN _) (Nat.add_assoc _ _ _))⟩)) | (go_at_call 23; (with_reducible refine (rmul_d za k zt _ MU.out).mono ?_); rintro e w' ⟨rfl, ⟨nd, rfl⟩⟩; (try first | exact ⟨rfl, _, World.drewN_drewN _ _ _⟩ | exact ⟨rfl, _, Eq.trans (World.drewN_drewN _ _ _) (congrArg (World.drewN _) (Nat.add_assoc _ _ _))⟩)))
      go_upto_region 14 with (first | ((with_reducible refine gate_dst (N := 66) rfl ?_); (try (refine gate_guard (by rfl) ?_; dsimp only)); refine flatN.lit _ ?hg (N := 66) ?hd 22 4 ([1, 2, 3, 4] : List Int) rfl (by omega) ?hr ?_; (case hd => rfl); (case hg => rfl); (case hr => first | (go_simp; done) | (go_simp; rfl)); intro g_ w_ _ _ hC hb; have XR : Aside0 (Ns 4 w_ (some ⟨g_, 0, none⟩) [1, 2, 3, 4]) := ⟨hC⟩; have T1_ := Aside0.mk (below_step (show Below w.heap.size w _ from by first | exact HB.out | exact pw_below_drewN HB.out _) hb); clear HB; have HB := T1_; clear T1_; clear hb hC) | (go_at_call 46; (with_reducible refine (weights_g (m := 4) 1400 x [o1, o2, o3, o4] rfl (Nat.succ_pos 3) XR.out (Nat.le_refl 4) WX.out).mono ?_); rintro e_ w_ ⟨gw, dw, rfl, hW, hb⟩; have WW := Aside0.mk hW; have T1_ := Aside0.mk (below_step (show Below w.heap.size w _ from by first | exact HB.out | exact pw_below_drewN HB.out _) hb); clear HB; have HB := T1_; clear T1_; clear hb hW XR WX) | ((with_reducible refine gate_dst (N := 72) rfl ?_); (try (refine gate_guard (by rfl) ?_; dsimp only)); refine flatN.lit _ ?hg (N := 72) ?hd 22 4 ([1, 2, 3, 4] : List Int) rfl (by omega) ?hr ?_; (case hd => rfl); (case hg => rfl); (case hr => first | (go_simp; done) | (go_simp; rfl)); intro g_ w_ _ _ hC hb; have XR : Aside0 (Ns 4 w_ (some ⟨g_, 0, none⟩) [1, 2, 3, 4]) := ⟨hC⟩; have T1_ := Aside0.mk (WW.out.below hb); clear WW; have WW := T1_; clear T1_; have T1_ := Aside0.mk (below_step (show Below w.heap.size w _ from by first | exact HB.out | exact pw_below_drewN HB.out _) hb); clear HB; have HB := T1_; clear T1_; clear hb hC) | (go_at_call 46; (with_reducible refine (weights_g (m := 4) 1400 3 [0, 0, 1, 0] rfl (Nat.succ_pos 3) XR.out (Nat.le_refl 4) WT.out).mono ?_); rintro e_ w_ ⟨gv, dv, rfl, hW, hb⟩; have VV := Aside0.mk hW; have T1_ := Aside0.mk (WW.out.below hb); clear WW; have WW := T1_; clear T1_; have T1_ := Aside0.mk (below_step (show Below w.heap.size w _ from by first | exact HB.out | exact pw_below_drewN HB.out _) hb); clear HB; have HB := T1_; clear T1_; clear hb hW XR WT; have w0 := WW.out.cell 0 (by omega); have w1 := WW.out.cell 1 (by omega); have w2 := WW.out.cell 2 (by omega); have w3_ := WW.out.cell 3 (by omega); have v0 := VV.out.cell 0 (by omega); have v1 := VV.out.cell 1 (by omega); have v2 := VV.out.cell 2 (by omega); have v3 := VV.out.cell 3 (by omega); simp only [List.getD_cons_zero, List.getD_cons_succ] at w0 w1 w2 w3_ v0 v1 v2 v3))
      go_quiet (first | (go_at_call 19; (with_reducible refine (radd_d o1 o2 o5 _ S1.out).mono ?_); rintro e w' ⟨rfl, ⟨nd, rfl⟩⟩; (try first | exact ⟨rfl, _, World.drewN_drewN _ _ _⟩ | exact ⟨rfl, _, Eq.trans (World.drewN_drewN _ _ _) (congrArg (World.drewN _) (Nat.add_assoc _ _ _))⟩)) | (go_at_call 19; (with_reducible refine (radd_d o3 o4 o6 _ S2.out).mono ?_); rintro e w' ⟨rfl, ⟨nd, rfl⟩⟩; (try first | exact ⟨rfl, _, World.drewN_drewN _ _ _⟩ | exact ⟨rfl, _, Eq.trans (World.drewN_drewN _ _ _) (congrArg (World.drewN _) (Nat.add_assoc _ _ _))⟩)) | (go_at_call 19; (with_reducible refine (radd_d o5 o6 1 _ S3.out).mono ?_); rintro e w' ⟨rfl, ⟨nd, rfl⟩⟩; (try first | exact ⟨rfl, _, World.drewN_drewN _ _ _⟩ | exact ⟨rfl, _, Eq.trans (World.drewN_drewN _ _ _) (congrArg (World.drewN _) (Nat.add_assoc _ _ _))⟩)))
      go_wp2_with (first | (go_at_call 40; (with_reducible refine (sure_is _ (As.LaidG.below HG.out (by first | exact HB.out | exact pw_below_drewN HB.out _))).mono ?_); rintro e_ w_ ⟨rfl, hb⟩; have T1_ := Aside0.mk (below_step (show Below w.heap.size w _ from by first | exact HB.out | exact pw_below_drewN HB.out _) hb); clear HB; have HB := T1_; clear T1_; clear hb))
      go_ret
      exact ⟨rfl, HB.out⟩

theorem two_of {l : List Int} (h : l.length = 2) : ∃ a b, l = [a, b] := by
  match l, h with
  | [a, b], _ => exact ⟨a, b, rfl⟩
theorem sums_wf (_ : True) (l0 l1 l2 : List Int) (w : World) (hG : As.LaidG w)
    (n0 : l0.length = 5) (w0 : ∀ x ∈ l0, (Lit.int .u64 x).wf = true) (n1 : l1.length = 5) (w1 : ∀ x ∈ l1, (Lit.int .u64 x).wf = true) (n2 : l2.length = 2) (w2 : ∀ x ∈ l2, (Lit.int .u64 x).wf = true) :
    Calls Tryd.prog 12 #[.agg (l0.map (Value.int .u64)).toArray, .agg (l1.map (Value.int .u64)).toArray, .agg (l2.map (Value.int .u64)).toArray] w fun x w' => x = .returned (.bool true) ∧ Below w.heap.size w w' := by
  obtain ⟨La, rfl, hA⟩ := nl_of l0 w0
  obtain ⟨Lb, rfl, hB⟩ := nl_of l1 w1
  obtain ⟨x, k, rfl⟩ := two_of n2
  have hx := bounds_u64 (w2 x (by simp))
  have hk := bounds_u64 (w2 k (by simp))
  obtain ⟨x, rfl⟩ := Int.eq_ofNat_of_zero_le hx.1
  obtain ⟨k, rfl⟩ := Int.eq_ofNat_of_zero_le hk.1
  exact sums_go La Lb x k (by rw [← nl_len]; exact n0) (by rw [← nl_len]; exact n1) hA hB (by omega) (by omega) w hG
end Go.Proofs.YtbfgppecpkfcnaaDoor.PPoly
