/-
  More of what the laws call, as calls with known answers.
-/
import Derived.Test.YtihcolmkfmdbaaaDoorILaw0
namespace Go.Proofs.YtihcolmkfmdbaaaDoor.It
open Go.RowKit Go.Proofs.YtihcolmkfmdbaaaDoorW.PrintWords Go.Proofs.YtihcolmkfmdbaaaDoorW.PrintLast Go.Proofs.YtihcolmkfmdbaaaDoorW.PrintMore Go.Proofs.YtihcolmkfmdbaaaDoor.Ip Go.Proofs.YtihcolmkfmdbaaaDoor.Ih Go.Proofs.YtihcolmkfmdbaaaDoor.PId
set_option maxRecDepth 100000
section
variable {w : World} {A B D E' G : Option Addr} {n m k r r' d c c' c'' c3 c4 : Nat} {O L K Q : List (List Int)} {P R : List (List (List Int))} {came a b : List Int}
theorem great_k (t : Bool) (hO : Rs w A n c O) (hP : Ps w B m c' P) (hL : Ps w D k c'' R) (h : caucuslaw37_great.f 1000000 O P R = some t) : Calls Tryd.prog 6 #[.agg #[.slice A n c, .slice B m c'], .slice D k c''] w (Ret (.bool t) w) := by
  obtain ⟨hO, rfl, cO⟩ := hO
  obtain ⟨hP, rfl, cP⟩ := hP
  obtain ⟨hL, rfl, cL⟩ := hL
  exact (caucuslaw37_great.calls 1000000 A c O B c' P D c'' R _ w hO cO hP cP hL cL h)
theorem give_c : Calls Tryd.prog 8 #[.agg #[.slice A n c, .slice B m c']] w (Ret (.agg #[.slice A n c, .slice B m c']) w) := by
  go_enter Tryd.func8, Tryd.ntmps8
  go_wp2_with (first | ((with_reducible refine gate_dst (N := 1) rfl ?_); refine box_event ?hg (N := 1) ?hd (cs := #[.slice A n c, .slice B m c']) (t := 25) ?hr ?_; (case hd => rfl); (case hg => rfl); (case hr => first | (go_simp; done) | (go_simp; rfl)); intro g3 hg w3 hbox hb; have E3 := Aside0.mk hg; have K3 := Aside0.mk hbox; have H3 := Aside0.mk hb; clear hg hbox hb) | ((with_reducible refine gate_dst (N := 2) rfl ?_); refine box_event ?hg (N := 2) ?hd (cs := #[.slice none 0 0, .slice none 0 0]) (t := 32) ?hr ?_; (case hd => rfl); (case hg => rfl); (case hr => first | (go_simp; done) | (go_simp; rfl)); intro g6 hg w6 hbox hb; have S1 := Aside0.mk (below_step H3.out hb); have K1 := Aside0.mk ((hb.block _ (blk_lt K3.out)).trans K3.out); have K2 := Aside0.mk hbox; have L2 := Aside0.mk (Nat.le_trans H3.out.size (Nat.le_of_eq hg.symm)); clear hg hbox hb E3 K3 H3; have d0 := (blk_cell K1.out 0).trans rfl; have d1 := (blk_cell K1.out 1).trans rfl; have e0 := (blk_cell K2.out 0).trans rfl; have e1 := (blk_cell K2.out 1).trans rfl; have f0 := blk_frozen K2.out 0; have f1 := blk_frozen K2.out 1))
  refine bodyPost_ret (results_cell_row rfl _ _ g6 32 #[.slice A n c, .slice B m c'] (0, 0) _ rfl (put2 K2.out _ _) Tryd.underlying32 rfl (by kernel_rfl)) rfl ?_
  exact ⟨rfl, below2 S1.out L2.out _ _⟩
theorem hidden_e (hO : Rs w A n c O) (hP : Ps w B m c' P) (hL : Rs w E' r c3 L) (hf : ¬ FitsP O P L) : Calls Tryd.prog 10 #[.agg #[.slice A n c, .slice B m c'], .slice E' r c3] w fun e w' => ∃ A c, e = .returned (.tuple #[.slice A 0 c, .iface 63 (.int .i64 1)]) ∧ Rs w' A 0 c [] ∧ Below w.heap.size w w' :=
  hidden_no hO hP hL hf
theorem hidden_n (hO : Rs w A n c O) (hP : Ps w B m c' P) (hL : Rs w E' r c3 L) (hf : FitsP O P L) (hl : L.length = n) : Calls Tryd.prog 10 #[.agg #[.slice A n c, .slice B m c'], .slice E' r c3] w fun e w' => ∃ A c, e = .returned (.tuple #[.slice A n c, .nilIface]) ∧ Rs w' A n c (hid O P L) ∧ Below w.heap.size w w' := by
  have h := hidden_ok hO hP hL hf
  unfold RetR at h
  rw [hid_len, hl] at h
  exact h
theorem sum_d (hL : Rs w A n c L) (h : Ip.Rows L n d) (hn : n ≤ 64) (hd : d ≤ 32) : Calls Tryd.prog 21 #[.slice A n c, .int .i64 d] w fun e w' => ∃ A c, e = .returned (.tuple #[.slice A d c, .bool true]) ∧ Us w' A d c (sumr L d) ∧ Below w.heap.size w w' := by
  have h1 := sum_c hL h (by omega) hd
  unfold RetU at h1
  rw [(sumr_all h).1] at h1
  exact h1.mono fun _ _ ⟨A, c, h2, h3, _, h4⟩ => ⟨A, c, h2, h3, h4⟩
theorem radd_d (ha : Us w A d c a) (hb : Us w B d c' b) (hd : d ≤ 32) : Calls Tryd.prog 22 #[.slice A d c, .slice B d c', .int .u64 1] w fun e w' => ∃ A c, e = .returned (.tuple #[.slice A d c, .bool true]) ∧ Us w' A d c (va a b) ∧ Below w.heap.size w w' := by
  have h1 := radd_c ha hb hd
  unfold RetU at h1
  rw [va_len ha.len hb.len] at h1
  exact h1.mono fun _ _ ⟨A, c, h2, h3, _, h4⟩ => ⟨A, c, h2, h3, h4⟩
theorem same_k {n m : Nat} (ha : Us w A n c a) (hb : Us w B m c' b) (hn : n ≤ 1000) (ht : a = b) : Calls Tryd.prog 23 #[.slice A n c, .slice B m c'] w (Ret (.bool true) w) :=
  (same_c true ha hb hn (decide_eq_true ht)).mono fun _ _ q => ret_of q
end
end Go.Proofs.YtihcolmkfmdbaaaDoor.It
