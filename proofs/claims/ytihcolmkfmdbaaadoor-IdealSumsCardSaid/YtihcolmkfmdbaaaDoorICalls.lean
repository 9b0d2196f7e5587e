/-
  The functions of layer 37 as calls with known answers.
-/
import Derived.Test.YtihcolmkfmdbaaaDoorIShown0
namespace Go.Proofs.YtihcolmkfmdbaaaDoor.It
open Go.RowKit Go.Proofs.YtihcolmkfmdbaaaDoorW.PrintWords Go.Proofs.YtihcolmkfmdbaaaDoorW.PrintLast Go.Proofs.YtihcolmkfmdbaaaDoorW.PrintMore Go.Proofs.YtihcolmkfmdbaaaDoor.Ip Go.Proofs.YtihcolmkfmdbaaaDoor.Ih Go.Proofs.YtihcolmkfmdbaaaDoor.PId

/-- a value comes back, and what lay there stays -/
def Ret (v : Value) (w : World) (e : Ending) (w' : World) : Prop := e = .returned v ∧ Below w.heap.size w w'
theorem ret_of {v : Value} {w : World} {e : Ending} {w' : World} (h : e = .returned v ∧ Drawn0 w w') : Ret v w e w' := ⟨h.1, h.2.below⟩
def er (n : Int) : Value := .iface 63 (.int .i64 n)
/-- a row of its own comes back, with a word -/
def RetU (l : List Int) (x : Value) (w : World) (e : Ending) (w' : World) : Prop := ∃ A c, e = .returned (.tuple #[.slice A l.length c, x]) ∧ Us w' A l.length c l ∧ Kd.R KU 61 w' w.heap.size (fun _ => True) (.slice A l.length c) l ∧ Below w.heap.size w w'
theorem retU_of {l : List Int} {x : Value} {w : World} {e : Ending} {w' : World} (h : ∃ v0_ : Value, e = .returned (.tuple #[v0_, x]) ∧ Kd.R KU 61 w' w.heap.size (fun _ => True) v0_ l ∧ Below w.heap.size w w') : RetU l x w e w' := by
  obtain ⟨v, rfl, hr, hb⟩ := h
  obtain ⟨A, c, rfl, hc, hC⟩ := Kd.R_reads hr
  exact ⟨A, c, rfl, ⟨hC, rfl, hc⟩, hr, hb⟩
/-- rows come back, with a word -/
def RetR (L : List (List Int)) (x : Value) (w : World) (e : Ending) (w' : World) : Prop := ∃ A c, e = .returned (.tuple #[.slice A L.length c, x]) ∧ Rs w' A L.length c L ∧ Below w.heap.size w w'
theorem retR_of {L : List (List Int)} {x : Value} {w : World} {e : Ending} {w' : World} (h : ∃ v0_ : Value, e = .returned (.tuple #[v0_, x]) ∧ Kd.S KR 54 w' w.heap.size (fun _ => True) v0_ L ∧ Below w.heap.size w w') : RetR L x w e w' := by
  obtain ⟨v, rfl, hr, hb⟩ := h
  obtain ⟨A, c, rfl, hc, hC⟩ := Kd.S_reads hr
  exact ⟨A, c, rfl, ⟨hC, rfl, hc⟩, hb⟩
/-- a table comes back, with a word -/
def RetT (O : List (List Int)) (P : List (List (List Int))) (x : Value) (w : World) (e : Ending) (w' : World) : Prop :=
  ∃ A c B c', e = .returned (.tuple #[.agg #[.slice A O.length c, .slice B P.length c'], x]) ∧ Rs w' A O.length c O ∧ Ps w' B P.length c' P ∧ Below w.heap.size w w'
section
variable {w : World} {A B D E' : Option Addr} {n m k j c c' c'' c3 : Nat} {O L K : List (List Int)} {P : List (List (List Int))} {came : List Int}
theorem check_c (v : Value) (many dim : Int) (hO : Rs w A n c O) (hP : Ps w B m c' P) (hv : (FitP O P many dim ∧ v = .nilIface) ∨ (¬ FitP O P many dim ∧ v = er 1)) : Calls Tryd.prog 9 #[.agg #[.slice A n c, .slice B m c'], .int .i64 many, .int .i64 dim] w (Ret v w) := by
  obtain ⟨hO, rfl, cO⟩ := hO
  obtain ⟨hP, rfl, cP⟩ := hP
  have h := ideal_Check.calls 1000000 A c O B c' P many dim _ w hO cO hP cP (check_is 1000000 (by omega) O P many dim)
  rcases hv with ⟨h1, rfl⟩ | ⟨h1, rfl⟩
  · rw [if_pos h1] at h; exact h
  · rw [if_neg h1] at h; exact h
theorem placed_c (v : Value) (many : Int) (hc : Ns w A n c came) (hn : n ≤ 1000) (hv : (PlacesP came many ∧ v = .nilIface) ∨ (¬ PlacesP came many ∧ v = er 1)) : Calls Tryd.prog 28 #[.slice A n c, .int .i64 many] w (Ret v w) := by
  obtain ⟨hc, rfl, cc⟩ := hc
  have h := ideal_placed.calls 1000000 A c came many _ w hc cc (placed_is 1000000 (by omega) came many hn)
  rcases hv with ⟨h1, rfl⟩ | ⟨h1, rfl⟩
  · rw [if_pos h1] at h; exact h.mono fun _ _ q => (by first | exact q | exact ret_of q)
  · rw [if_neg h1] at h; exact h.mono fun _ _ q => (by first | exact q | exact ret_of q)
theorem has_c (b : Bool) (i : Nat) (x : Int) (hx : x = i) (hc : Ns w A n c came) (hn : n ≤ 1000) (hi : i < 64) (hb : hs came i = b) : Calls Tryd.prog 30 #[.slice A n c, .int .i64 x] w (Ret (.bool b) w) := by
  obtain ⟨hc, rfl, cc⟩ := hc
  subst hx
  subst hb
  exact (set_Has.calls 1000000 A c came i _ w hc cc (has_is' 1000000 (by omega) came hn i hi)).mono fun _ _ q => (by first | exact q | exact ret_of q)
theorem dim_c (hL : Rs w D k c'' L) : Calls Tryd.prog 20 #[.slice D k c''] w (Ret (.int .i64 (dimOf L)) w) := by
  obtain ⟨hL, rfl, cL⟩ := hL
  exact (caucusref37_Dim.calls D c'' L _ w hL cL (dim_is L)).mono fun _ _ q => (by first | exact q | exact ret_of q)
/-- the copy of a table -/
theorem clone_c {d base : Nat} (F : Fit O P n d) (hn : n ≤ 64) (hd : d ≤ 32) (hO : Rs w A n c O) (hP : Ps w B m c' P) (hbase : base ≤ w.heap.size) : Calls Tryd.prog 29 #[.agg #[.slice A n c, .slice B m c']] w fun e w' => ∃ A' c2 B' c3, e = .returned (.agg #[.slice A' n c2, .slice B' n c3]) ∧ Tb w' base (.slice A' n c2) (.slice B' n c3) O P ∧ Below w.heap.size w w' := by
  obtain ⟨hO, rfl, cO⟩ := hO
  obtain ⟨hP, rfl, cP⟩ := hP
  have hl := F.prs
  refine (clone_S 1000000 A c O B c' P O P w hO cO hP cP (clone_is' 1000000 (by omega) F hn hd)).mono ?_
  rintro e w' ⟨v0, v1, rfl, h1, h2, hb⟩
  obtain ⟨A', c2, e1⟩ := Kd.S_slice h1
  obtain ⟨B', c3, e2⟩ := Kd.S_slice h2
  rw [hl] at e2
  subst e1
  subst e2
  exact ⟨A', c2, B', c3, rfl, tb_of_S (Nat.le_trans hbase hb.size) (Kd.S_lower h1 hbase) (Kd.S_lower h2 hbase) (fun _ hk => hk), hb⟩
theorem alike_c (v : Value) (hO : Rs w A n c O) (hP : Ps w B m c' P) (hc : Ns w D k c'' came) (hL : Rs w E' j c3 L) {Q' : Option Addr} {j' c4 : Nat} (hK : Rs w Q' j' c4 K) (hk : k ≤ 1000) (hv : errW (alikeOut O P came L K) = v) :
    Calls Tryd.prog 33 #[.agg #[.slice A n c, .slice B m c'], .slice D k c'', .slice E' j c3, .slice Q' j' c4] w (Ret v w) := by
  obtain ⟨hO, rfl, cO⟩ := hO
  obtain ⟨hP, rfl, cP⟩ := hP
  obtain ⟨hc, rfl, cc⟩ := hc
  obtain ⟨hL, rfl, cL⟩ := hL
  obtain ⟨hK, rfl, cK⟩ := hK
  subst hv
  exact ideal_alike.calls 1000000 A c O B c' P D c'' came E' c3 L Q' c4 K _ w hO cO hP cP hc cc hL cL hK cK (alike_is 1000000 (by omega) O P came L K hk)
end
section
variable {w : World} {A B : Option Addr} {d c c' : Nat} {a b : List Int}
theorem sub_c (ha : Us w A d c a) (hb : Us w B d c' b) (hd : d ≤ 32) : Calls Tryd.prog 34 #[.slice A d c, .slice B d c'] w (RetU (vs a b) .nilIface w) := by
  obtain ⟨ha, la, ca⟩ := ha
  obtain ⟨hb, lb, cb⟩ := hb
  subst la
  rw [← lb] at hb cb
  have h := vec_Sub.calls A c a B c' b _ none w ha ca hb cb (vsub_is (d := a.length) rfl lb hd)
  rw [lb] at h
  exact h.mono fun _ _ q => retU_of q
theorem add_c (ha : Us w A d c a) (hb : Us w B d c' b) (hd : d ≤ 32) : Calls Tryd.prog 35 #[.slice A d c, .slice B d c'] w (RetU (va a b) .nilIface w) := by
  obtain ⟨ha, la, ca⟩ := ha
  obtain ⟨hb, lb, cb⟩ := hb
  subst la
  rw [← lb] at hb cb
  have h := vec_Add.calls A c a B c' b _ none w ha ca hb cb (vadd_is (d := a.length) rfl lb hd)
  rw [lb] at h
  exact h.mono fun _ _ q => retU_of q
theorem radd_c (ha : Us w A d c a) (hb : Us w B d c' b) (hd : d ≤ 32) : Calls Tryd.prog 22 #[.slice A d c, .slice B d c', .int .u64 1] w (RetU (va a b) (.bool true) w) := by
  obtain ⟨ha, la, ca⟩ := ha
  obtain ⟨hb, lb, cb⟩ := hb
  subst la
  rw [← lb] at hb cb
  have h := caucusref02_Add.calls 1000000 A c a B c' b 1 _ true w ha ca hb cb (radd_va (d := a.length) rfl lb hd 1000000 (by omega))
  rw [lb] at h
  exact h.mono fun _ _ q => retU_of q
theorem same_c {n m : Nat} (t : Bool) (ha : Us w A n c a) (hb : Us w B m c' b) (hn : n ≤ 1000) (ht : decide (a = b) = t) : Calls Tryd.prog 23 #[.slice A n c, .slice B m c'] w (fun e w' => e = .returned (.bool t) ∧ Drawn0 w w') := by
  obtain ⟨ha, rfl, ca⟩ := ha
  obtain ⟨hb, rfl, cb⟩ := hb
  subst ht
  exact caucusref02_Same.calls 1000000 A c a B c' b _ w ha ca hb cb (same_tells 1000000 a b hn (by omega))
end
end Go.Proofs.YtihcolmkfmdbaaaDoor.It
