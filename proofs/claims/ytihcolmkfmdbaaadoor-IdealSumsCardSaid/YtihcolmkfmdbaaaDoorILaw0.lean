/-
  The functions that the laws call, as calls with known answers; literals of rows.
-/
import Derived.Test.YtihcolmkfmdbaaaDoorIRMoved0
import Derived.Test.YtihcolmkfmdbaaaDoorIMoved
import Derived.Test.YtihcolmkfmdbaaaDoorAs
namespace Go.Proofs.YtihcolmkfmdbaaaDoor.It
open Go.RowKit Go.Proofs.YtihcolmkfmdbaaaDoorW.PrintWords Go.Proofs.YtihcolmkfmdbaaaDoorW.PrintLast Go.Proofs.YtihcolmkfmdbaaaDoorW.PrintMore Go.Proofs.YtihcolmkfmdbaaaDoor.Ip Go.Proofs.YtihcolmkfmdbaaaDoor.Ih Go.Proofs.YtihcolmkfmdbaaaDoor.PId
section
variable {w : World} {A B D E' G : Option Addr} {n m k r r' c c' c'' c3 c4 : Nat} {O L K Q : List (List Int)} {P R : List (List (List Int))} {came : List Int}
theorem hidden_ok (hO : Rs w A n c O) (hP : Ps w B m c' P) (hL : Rs w E' r c3 L) (hf : FitsP O P L) : Calls Tryd.prog 10 #[.agg #[.slice A n c, .slice B m c'], .slice E' r c3] w (RetR (hid O P L) .nilIface w) := by
  obtain ⟨hO, rfl, cO⟩ := hO
  obtain ⟨hP, rfl, cP⟩ := hP
  obtain ⟨hL, rfl, cL⟩ := hL
  exact (ideal_Hidden.calls 1000000 A c O B c' P E' c3 L (hid O P L) none w hO cO hP cP hL cL ((Hidden_is _ (by omega) O P L).trans (by rw [if_pos hf]))).mono fun _ _ q => retR_of q
theorem hidden_no (hO : Rs w A n c O) (hP : Ps w B m c' P) (hL : Rs w E' r c3 L) (hf : ¬ FitsP O P L) : Calls Tryd.prog 10 #[.agg #[.slice A n c, .slice B m c'], .slice E' r c3] w (RetR [] (er 1) w) := by
  obtain ⟨hO, rfl, cO⟩ := hO
  obtain ⟨hP, rfl, cP⟩ := hP
  obtain ⟨hL, rfl, cL⟩ := hL
  exact (ideal_Hidden.calls 1000000 A c O B c' P E' c3 L [] (some 1) w hO cO hP cP hL cL ((Hidden_is _ (by omega) O P L).trans (by rw [if_neg hf]))).mono fun _ _ q => retR_of q
/-- rows that may be compared -/
def Cmp (L : List (List Int)) : Prop := L.length ≤ 1000 ∧ ∀ i, i < L.length → (gr L i).length ≤ 1000
theorem rows_c (t : Bool) (hL : Rs w A n c L) (hK : Rs w B m c' K) (hs : Cmp L) (ht : decide (L = K) = t) : Calls Tryd.prog 18 #[.slice A n c, .slice B m c'] w (Ret (.bool t) w) := by
  obtain ⟨hL, rfl, cL⟩ := hL
  obtain ⟨hK, rfl, cK⟩ := hK
  subst ht
  exact (caucuslaw37_rows.calls 1000000 A c L B c' K _ w hL cL hK cK (rows_is _ (by omega) L K hs.1 hs.2)).mono fun _ _ q => ret_of q
def CmpT (O : List (List Int)) (P : List (List (List Int))) : Prop := Cmp O ∧ P.length ≤ 1000 ∧ ∀ i, i < P.length → Cmp (gp P i)
theorem tables_c (t : Bool) (hO : Rs w A n c O) (hP : Ps w B m c' P) (hQ : Rs w D k c'' Q) (hR : Ps w E' r c3 R) (hs : CmpT O P) (ht : decide (O = Q ∧ P = R) = t) : Calls Tryd.prog 19 #[.agg #[.slice A n c, .slice B m c'], .agg #[.slice D k c'', .slice E' r c3]] w (Ret (.bool t) w) := by
  obtain ⟨hO, rfl, cO⟩ := hO
  obtain ⟨hP, rfl, cP⟩ := hP
  obtain ⟨hQ, rfl, cQ⟩ := hQ
  obtain ⟨hR, rfl, cR⟩ := hR
  subst ht
  refine (caucuslaw37_tables.calls 1000000 A c O B c' P D c'' Q E' c3 R _ w hO cO hP cP hQ cQ hR cR (tables_is _ (by omega) O Q P R hs.1.1 hs.1.2 hs.2.1 (fun i hi => ⟨(hs.2.2 i hi).1, (hs.2.2 i hi).2⟩))).mono fun _ _ q => q
theorem sum_c {d : Nat} (hL : Rs w A n c L) (h : Ip.Rows L n d) (hn : n ≤ 1000) (hd : d ≤ 32) : Calls Tryd.prog 21 #[.slice A n c, .int .i64 d] w (RetU (sumr L d) (.bool true) w) := by
  obtain ⟨hL, rfl, cL⟩ := hL
  exact (caucusref02_Sum.calls 1000000 A c L d _ _ w hL cL (rsum_is 1000000 (by omega) h hn hd)).mono fun _ _ q => retU_of q
end
/-! ### literals -/
theorem C_of_blk {α : Type} (d : Kd α) {w : World} {g e : Nat} {cs : Array Value} {xs : List α} (h : w.heap[g]? = some (.cells cs e (0, 0))) (hr : Reps (d.K w) d.sz xs cs.toList) (hm : xs.length ≤ 9223372036854775807) : d.C w (some ⟨g, 0, none⟩) xs.length xs := by
  refine ⟨rfl, hm, fun _ => ⟨_, rfl, fun j p hj => ⟨_, d.K_len (hr.2 j p hj), hr.2 j p hj, fun i u hu => ?_⟩⟩⟩
  rw [Go.WideShapes.add_plain, Nat.zero_add, blk_cell h (j * d.sz + i)]
  rw [List.getElem?_take] at hu
  split at hu
  · rw [List.getElem?_drop, Array.getElem?_toList] at hu
    exact hu
  · cases hu
theorem Rs.lit2 {w : World} {g : Nat} {A1 A2 : Option Addr} {n1 n2 c1 c2 : Nat} {x y : List Int} (h : w.heap[g]? = some (.cells #[.slice A1 n1 c1, .slice A2 n2 c2] 54 (0, 0))) (hx : Us w A1 n1 c1 x) (hy : Us w A2 n2 c2 y) : Rs w (some ⟨g, 0, none⟩) 2 2 [x, y] := by
  obtain ⟨hx, rfl, lx⟩ := hx
  obtain ⟨hy, rfl, ly⟩ := hy
  exact ⟨C_of_blk KR h (((Reps.none _ _).snoc (show KR.K w x [_] from ⟨A1, c1, rfl, lx, hx⟩) rfl).snoc (show KR.K w y [_] from ⟨A2, c2, rfl, ly, hy⟩) rfl) (by simp), rfl, Nat.le_refl _⟩
theorem Rs.lit1 {w : World} {g : Nat} {A1 : Option Addr} {n1 c1 : Nat} {x : List Int} (h : w.heap[g]? = some (.cells #[.slice A1 n1 c1] 54 (0, 0))) (hx : Us w A1 n1 c1 x) : Rs w (some ⟨g, 0, none⟩) 1 1 [x] := by
  obtain ⟨hx, rfl, lx⟩ := hx
  exact ⟨C_of_blk KR h ((Reps.none _ _).snoc (show KR.K w x [_] from ⟨A1, c1, rfl, lx, hx⟩) rfl) (by simp), rfl, Nat.le_refl _⟩
theorem Rs.lit0 (w : World) (A : Option Addr) (c : Nat) : Rs w A 0 c [] := ⟨⟨rfl, by decide, fun h => absurd h (by decide)⟩, rfl, Nat.zero_le _⟩
theorem Ps.lit2 {w : World} {g : Nat} {A1 A2 : Option Addr} {n1 n2 c1 c2 : Nat} {x y : List (List Int)} (h : w.heap[g]? = some (.cells #[.slice A1 n1 c1, .slice A2 n2 c2] 22 (0, 0))) (hx : Rs w A1 n1 c1 x) (hy : Rs w A2 n2 c2 y) : Ps w (some ⟨g, 0, none⟩) 2 2 [x, y] := by
  obtain ⟨hx, rfl, lx⟩ := hx
  obtain ⟨hy, rfl, ly⟩ := hy
  exact ⟨C_of_blk KP h (((Reps.none _ _).snoc (show KP.K w x [_] from ⟨A1, c1, rfl, lx, hx⟩) rfl).snoc (show KP.K w y [_] from ⟨A2, c2, rfl, ly, hy⟩) rfl) (by simp), rfl, Nat.le_refl _⟩
theorem Ps.lit1 {w : World} {g : Nat} {A1 : Option Addr} {n1 c1 : Nat} {x : List (List Int)} (h : w.heap[g]? = some (.cells #[.slice A1 n1 c1] 22 (0, 0))) (hx : Rs w A1 n1 c1 x) : Ps w (some ⟨g, 0, none⟩) 1 1 [x] := by
  obtain ⟨hx, rfl, lx⟩ := hx
  exact ⟨C_of_blk KP h ((Reps.none _ _).snoc (show KP.K w x [_] from ⟨A1, c1, rfl, lx, hx⟩) rfl) (by simp), rfl, Nat.le_refl _⟩
theorem Us.lit1 {w : World} {g : Nat} {x : Int} (h : w.heap[g]? = some (.cells #[.int .u32 x] 61 (0, 0))) : Us w (some ⟨g, 0, none⟩) 1 1 [x] :=
  ⟨C_of_blk KU h ((Reps.none _ _).snoc (show KU.K w x [_] from rfl) rfl) (by simp), rfl, Nat.le_refl _⟩
theorem Ns.lit1 {w : World} {g : Nat} {x : Int} (h : w.heap[g]? = some (.cells #[.int .i64 x] 3 (0, 0))) : Ns w (some ⟨g, 0, none⟩) 1 1 [x] :=
  ⟨C_of_blk (Kd.int .i64) h ((Reps.none _ _).snoc (show (Kd.int .i64).K w x [_] from rfl) rfl) (by simp), rfl, Nat.le_refl _⟩
theorem Ns.lit2 {w : World} {g : Nat} {x y : Int} (h : w.heap[g]? = some (.cells #[.int .i64 x, .int .i64 y] 3 (0, 0))) : Ns w (some ⟨g, 0, none⟩) 2 2 [x, y] :=
  ⟨C_of_blk (Kd.int .i64) h (((Reps.none _ _).snoc (show (Kd.int .i64).K w x [_] from rfl) rfl).snoc (show (Kd.int .i64).K w y [_] from rfl) rfl) (by simp), rfl, Nat.le_refl _⟩
section
variable {P : Program} {ops : Array Oper} {rest : List Oper} {o : Oper} {a : Act} {Q : Exit → Act → World → Prop}
/-- a literal: a fresh block -/
theorem lit_event {W : World} (hgd : o.guard = none) {N : Tmp} (_hd : o.dst = some N) {cs : Array Value} {t : TypeId} {n : Nat}
    (hrun : (execOp a.eval o).run P W = .ok (.value (.slice (some ⟨W.heap.size, 0, none⟩) n n)) (W.alloc (.cells cs t (0, 0))))
    (h : ∀ g, g = W.heap.size → ∀ w1, w1.heap[g]? = some (.cells cs t (0, 0)) → Below W.heap.size W w1 → wpList P ops Q rest (a.put o.dst (.slice (some ⟨g, 0, none⟩) n n)) w1) : wpList P ops Q (o :: rest) a W :=
  Kd.event_run hgd hrun (h _ rfl _ (blk_new W _) (below_alloc (Below.refl _ _) _))
end
end Go.Proofs.YtihcolmkfmdbaaaDoor.It
