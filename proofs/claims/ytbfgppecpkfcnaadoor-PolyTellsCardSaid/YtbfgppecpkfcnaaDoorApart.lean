/-
  poly.apart, walked: whether places are too many, or two are the same. Its map, and a look-up in a map of truths that the call has made.
-/
import Derived.Test.YtbfgppecpkfcnaaDoorFpFacts
import Derived.Maps.OwnOps
import Derived.Maps.Views
import Derived.Maps.Range
import Derived.Carry
import Derived.Lib.Hide
import Derived.LoopTactic
import Derived.WalkSpells
namespace Go.Proofs.YtbfgppecpkfcnaaDoor.Ap
open Go.RowKit Go.Proofs.YtbfgppecpkfcnaaDoorW.PrintWords Go.Proofs.YtbfgppecpkfcnaaDoorW.PrintLast Go.Proofs.YtbfgppecpkfcnaaDoorW.PrintMore Go.Proofs.YtbfgppecpkfcnaaDoor.PFp Go.Proofs.YtbfgppecpkfcnaaDoor.Fq
open Go.Maps (Keyed)

section
variable {H : Type} {P : Program}
theorem plainElem_bool_inv {e : TypeId} (he : P.underlying e = some .bool) {v : Value} {z : DataW H × List MemPlace} (h : plainElem P e v = some z) : ∃ b, v = .bool b ∧ z = (.lit (.bool b), []) := by
  unfold plainElem at h
  rw [he] at h
  cases v <;> simp at h
  subst h
  exact ⟨_, rfl, rfl⟩
theorem lookup_bool {k t e : TypeId} {w : World} {b n : Nat} {D : DataW H} (h : w.ownsMap P k (plainElem P e) b n D) (K : Keyed P k) (ht : P.underlying t = some (.map k e)) (he : P.underlying e = some .bool) (hz : (zeroValue e).run P w = .ok (.bool false) w)
    {key : Value} {kl : Lit} (hkey : keyOf P k key = some kl) : ∃ c, (Instr.lookup t (.map (some b)) key false).run P w = .ok (.bool c) w ∧ D.atKey kl (.lit (.bool false)) = .lit (.bool c) := by
  obtain ⟨v, ps, hrun, hv⟩ := h.lookup K ht hz (plainElem_bool he false) hkey
  obtain ⟨c, rfl, hc⟩ := plainElem_bool_inv he hv
  simp only [Prod.mk.injEq] at hc
  exact ⟨c, hrun, hc.1⟩
theorem wpList_lookup_own_bool (w : World) {ops : Array Oper} {rest : List Oper} {o : Oper} {a : Act} {Q : Exit → Act → World → Prop}
    (hg : o.guard = none) (m x : Operand) (t : TypeId) (hop : o.op = Op.lookup t m x false)
    (k e : TypeId) (K : Keyed P k) (ht : P.underlying t = some (.map k e)) (he : P.underlying e = some .bool) (hz : (zeroValue e).run P w = .ok (.bool false) w) (b n : Nat) (D : DataW H)
    (hm : a.eval m = .map (some b)) (hown : w.ownsMap P k (plainElem P e) b n D) (key : Value) (kl : Lit) (hx : a.eval x = key) (hkey : keyOf P k key = some kl)
    (hK : ∀ c : Bool, D.atKey kl (.lit (.bool false)) = .lit (.bool c) → wpList P ops Q rest (a.put o.dst (.bool c)) w) :
    wpList P ops Q (o :: rest) a w := by
  refine wpList_plain hg fun K' hK' => ?_
  obtain ⟨c, hrun, hat⟩ := lookup_bool hown K ht he hz hkey
  unfold Oper.wp
  simp [execOp, hop, hm, hx, hrun, Result.andThen]
  exact hK' _ _ (hK c hat)
end

theorem own_below {P : Program} {k : TypeId} {R : Value → Option (DataW Unit × List MemPlace)} {b n : Nat} {D : DataW Unit} {w w1 : World} (h : w.ownsMap P k R b n D) (hb : Below w.heap.size w w1) : w1.ownsMap P k R b n D := by
  have hlt := h.lt
  obtain ⟨es, clock, h1, F, hs, hD⟩ := h
  exact ⟨es, clock, (hb.block b hlt).trans h1, F, hs, hD⟩
theorem law : Keyed Tryd.prog 22 := Go.Maps.int_keyed Tryd.underlying22
theorem zero4 (w : World) : (zeroValue 4).run Tryd.prog w = .ok (.bool false) w := by kernel_rfl

/-- what the map says: who has been seen -/
def Seen (D : DataW Unit) (s : List Nat) : Prop := Go.Maps.IsMap D ∧ ∀ n : Nat, n < 18446744073709551616 → D.atKey (.int .u64 (n : Int)) (.lit (.bool false)) = .lit (.bool (decide (n ∈ s)))
theorem wf_u64 (n : Nat) (h : n < 18446744073709551616) : (Lit.int .u64 (n : Int)).wf = true := by
  have h1 : IntKind.u64.min = 0 := rfl
  have h2 : IntKind.u64.max = 18446744073709551615 := rfl
  simp [Lit.wf, h1, h2]
  omega
theorem key_u64 (n : Nat) (h : n < 18446744073709551616) : keyOf Tryd.prog 22 (.int .u64 (n : Int)) = some (.int .u64 (n : Int)) := Go.Maps.keyOf_int_mk Tryd.underlying22 (wf_u64 n h)
theorem Seen.nil : Seen (.map []) [] := ⟨⟨[], rfl⟩, fun _ _ => rfl⟩
theorem Seen.put {D : DataW Unit} {s : List Nat} (h : Seen D s) (m : Nat) (hm : m < 18446744073709551616) : Seen (D.put (.int .u64 (m : Int)) (.lit (.bool true))) (m :: s) := by
  refine ⟨h.1.put _ _, fun n hn => ?_⟩
  by_cases e : n = m
  · subst e
    rw [Go.Maps.atKey_put_same h.1 (law.key (key_u64 n hn))]
    simp
  · rw [Go.Maps.atKey_put_other (by intro h; injection h with _ h; exact e (by omega)), h.2 n hn]
    simp [e]

/-- the code of what is told of places -/
def apc (l : List Int) : Option Int := if 64 < l.length then some 1 else if (l.map (· % 2305843009213693951)).Nodup then none else some 8
def InU (l : List Int) : Prop := ∀ x ∈ l, 0 ≤ x ∧ x < 18446744073709551616
instance (l : List Int) : Decidable (InU l) := inferInstanceAs (Decidable (∀ x ∈ l, 0 ≤ x ∧ x < 18446744073709551616))

theorem row_cell {w : World} {A : Option Addr} {n : Nat} {l : List Int} (h : Kd.C (Kd.int .u64) w A n l) (j : Nat) (hj : j < n) : ∃ ad, A = some ad ∧ w.cell? (ad.add j) = some (.int .u64 (l.getD j 0)) := by
  obtain ⟨_, _, h3⟩ := Kd.reads_of_C (d := (0 : Int)) h
  obtain ⟨ad, e, hc⟩ := h3 (by omega)
  exact ⟨ad, e, hc j hj⟩
/-- the numbers that have been seen behind j rounds -/
def seenL (l : List Int) (j : Nat) : List Nat := ((l.take j).map fun x => (x % 2305843009213693951).toNat).reverse
theorem seenL_succ (l : List Int) (j : Nat) (hj : j < l.length) : seenL l (j + 1) = (l.getD j 0 % 2305843009213693951).toNat :: seenL l j := by
  have e : l.take (j + 1) = l.take j ++ [l.getD j 0] := by
    rw [List.take_add_one, List.getElem?_eq_getElem hj]
    simp [List.getD, hj]
  unfold seenL
  rw [e, List.map_append, List.reverse_append]
  rfl
theorem mem_seenL (l : List Int) (hU : InU l) (j m : Nat) : m ∈ seenL l j ↔ (m : Int) ∈ (l.take j).map (· % 2305843009213693951) := by
  unfold seenL
  rw [List.mem_reverse]
  simp only [List.mem_map]
  constructor
  · rintro ⟨x, hx, rfl⟩
    have := hU x (List.mem_of_mem_take hx)
    exact ⟨x, hx, by omega⟩
  · rintro ⟨x, hx, e⟩
    exact ⟨x, hx, by omega⟩
theorem nodup_succ (l : List Int) (j : Nat) (hj : j < l.length) : ((l.take (j + 1)).map (· % 2305843009213693951)).Nodup ↔ ((l.take j).map (· % 2305843009213693951)).Nodup ∧ ¬ l.getD j 0 % 2305843009213693951 ∈ (l.take j).map (· % 2305843009213693951) := by
  have e : l.take (j + 1) = l.take j ++ [l.getD j 0] := by
    rw [List.take_add_one, List.getElem?_eq_getElem hj]
    simp [List.getD, hj]
  rw [e, List.map_append, List.nodup_append]
  constructor
  · rintro ⟨h1, _, h3⟩
    exact ⟨h1, fun h => h3 _ h _ (by simp) rfl⟩
  · rintro ⟨h1, h2⟩
    refine ⟨h1, by simp, fun a ha b hb e => ?_⟩
    simp only [List.map_cons, List.map_nil, List.mem_singleton] at hb
    subst hb
    subst e
    exact h2 ha
theorem nodup_take (l : List Int) (j : Nat) (h : (l.map (· % 2305843009213693951)).Nodup) : ((l.take j).map (· % 2305843009213693951)).Nodup := by
  have : ((l.take j).map (· % 2305843009213693951)) = (l.map (· % 2305843009213693951)).take j := List.map_take
  rw [this]
  exact h.sublist (List.take_sublist _ _)

def Told (v : Value) (w : World) (e : Ending) (w' : World) : Prop := e = .returned v ∧ Below w.heap.size w w'
theorem told_of {v : Value} {w : World} {e : Ending} {w' : World} (h : e = .returned v ∧ Drawn0 w w') : Told v w e w' := by
  obtain ⟨rfl, ⟨n, rfl⟩⟩ := h
  exact ⟨rfl, pw_below_drewN (Below.refl _ _) n⟩
theorem of_is (x : Int) (w : World) (h : 0 ≤ x ∧ x < 18446744073709551616) : Calls Tryd.prog 17 #[.int .u64 x] w (Told (.int .u64 (x % 2305843009213693951)) w) := by
  obtain ⟨n, rfl⟩ := Int.eq_ofNat_of_zero_le h.1
  exact (fp_Of.calls n (((n % Fq.PP : Nat)) : Int) w (of_tells n (by omega))).mono fun _ _ h => told_of h

set_option maxRecDepth 100000 in
set_option maxHeartbeats 1000000 in
theorem apart_great {A : Option Addr} {n c : Nat} {w : World} (hn : 64 < n) : Calls Tryd.prog 72 #[.slice A n c] w (Told (.iface 96 (.int .i64 1)) w) := by
  have q1 : decide (64 < (n : Int)) = true := decide_eq_true (by omega)
  have q2 : decide (64 < n) = true := decide_eq_true (by omega)
  clear hn
  go_enter Tryd.func72, Tryd.ntmps72
  go_wp2
  go_ret
  exact ⟨rfl, Below.refl _ _⟩
set_option maxRecDepth 100000 in
set_option maxHeartbeats 1000000 in
theorem apart_is {A : Option Addr} {n c : Nat} {l : List Int} {w : World} (hn : ¬ 64 < n) (hr : Kd.C (Kd.int .u64) w A n l) (hl : l.length = n) (hU : InU l) :
    Calls Tryd.prog 72 #[.slice A n c] w (Told (if (l.map (· % 2305843009213693951)).Nodup then .nilIface else .iface 96 (.int .i64 8)) w) := by
  obtain ⟨res, hres⟩ : ∃ v, (if (l.map (· % 2305843009213693951)).Nodup then Value.nilIface else .iface 96 (.int .i64 8)) = v := ⟨_, rfl⟩
  rw [hres]
  have HR := Aside0.mk hr
  have HL := Aside0.mk hl
  have HU := Aside0.mk hU
  have RES := Aside0.mk hres
  have q1 : decide (64 < (n : Int)) = false := decide_eq_false (by omega)
  have q2 : decide (64 < n) = false := decide_eq_false (by omega)
  have n64 : n ≤ 64 := by omega
  clear hn hr hl hU hres
  have hmm := @run_makeMap Tryd.prog
  go_enter Tryd.func72, Tryd.ntmps72
  go_wp2
  go_loopw [13] (fun v wr => ∃ (j : Nat) (D : DataW Unit), v = .int .i64 j ∧ j ≤ n ∧ wr.ownsMap Tryd.prog 22 (plainElem Tryd.prog 4) w.heap.size j D ∧ Aside0 (Seen D (seenL l j)) ∧ Aside0 (((l.take j).map (· % 2305843009213693951)).Nodup) ∧ Below w.heap.size w wr) (fun v _ => 64 - (intOf v).toNat)
  case atStart => exact ⟨0, _, rfl, by omega, World.ownsMap_made _ _ _ _, ⟨Seen.nil⟩, ⟨by simp⟩, below_alloc (Below.refl _ _) _⟩
  case round =>
    clear hmm
    obtain ⟨j, D, rfl, hj, hown, HS, HN, hb⟩ := hrel
    have HO := Aside0.mk hown
    have HB := Aside0.mk hb
    clear hown hb
    by_cases hlt : (j : Int) < (n : Int)
    · obtain ⟨ad, rfl, hcell0⟩ := row_cell HR.out j (by omega)
      have hcell := (HB.out.cell (World.block_lt_of_cell? w _ hcell0)).trans hcell0
      clear hcell0
      have hjl : j < l.length := by have := HL.out; omega
      have hx : 0 ≤ l.getD j 0 ∧ l.getD j 0 < 18446744073709551616 := by
        refine HU.out _ ?_
        rw [List.getD_eq_getElem?_getD, List.getElem?_eq_getElem hjl]
        exact List.getElem_mem _
      have ES := Aside0.mk (seenL_succ l j hjl)
      have EN := Aside0.mk (nodup_succ l j hjl)
      have EM : Aside0 (∀ m : Nat, m ∈ seenL l j ↔ (m : Int) ∈ (l.take j).map (· % 2305843009213693951)) := ⟨fun m => mem_seenL l HU.out j m⟩
      generalize l.getD j 0 = x at *
      have HX := Aside0.mk hx
      obtain ⟨m, hm⟩ : ∃ m : Nat, x % 2305843009213693951 = (m : Int) := ⟨(x % 2305843009213693951).toNat, by omega⟩
      have hml : m < 2305843009213693951 := by omega
      have OF : Aside0 (∀ W, Calls Tryd.prog 17 #[.int .u64 x] W (Told (.int .u64 (m : Int)) W)) := ⟨fun W => by have := of_is x W HX.out; rwa [hm] at this⟩
      have HM := Aside0.mk hm
      clear hx hm
      by_cases hs : m ∈ seenL l j
      · have AT : Aside0 (D.atKey (.int .u64 (m : Int)) (.lit (.bool false)) = .lit (.bool true)) := ⟨by rw [HS.out.2 m (by omega), decide_eq_true hs]⟩
        go_wp2_with (first | (go_at_call 17; go_loud ((with_reducible refine (OF.out _).mono ?_); rintro e w1 ⟨rfl, hb⟩; have HO1 := Aside0.mk (own_below HO.out hb); have B1 := Aside0.mk (below_step HB.out hb); clear hb)) | (at_lookup; refine wpList_lookup_own_bool _ rfl _ _ 128 rfl 22 4 law Tryd.underlying128 Tryd.underlying4 (zero4 _) w.heap.size j D rfl HO1.out _ _ rfl (key_u64 m (by omega)) ?_; intro c hat; rw [AT.out] at hat; obtain rfl : c = true := (by injection hat with h; injection h with h; exact h.symm)))
        go_ret
        refine ⟨?_, B1.out⟩
        have hnot : ¬ (l.map (· % 2305843009213693951)).Nodup := by
          intro hnd
          have h2 := (EN.out.1 (nodup_take l (j + 1) hnd)).2
          rw [HM.out] at h2
          exact h2 ((EM.out m).1 hs)
        rw [← RES.out, if_neg hnot]
        rfl
      · have AT : Aside0 (D.atKey (.int .u64 (m : Int)) (.lit (.bool false)) = .lit (.bool false)) := ⟨by rw [HS.out.2 m (by omega), decide_eq_false hs]⟩
        have HS2 : Aside0 (Seen (D.put (.int .u64 (m : Int)) (.lit (.bool true))) (seenL l (j + 1))) := ⟨by rw [ES.out, HM.out, Int.toNat_natCast]; exact HS.out.put m (by omega)⟩
        have HN2 : Aside0 (((l.take (j + 1)).map (· % 2305843009213693951)).Nodup) := ⟨EN.out.2 ⟨HN.out, by rw [HM.out]; exact fun h => hs ((EM.out m).2 h)⟩⟩
        go_wp2_with (first | (go_at_call 17; go_loud ((with_reducible refine (OF.out _).mono ?_); rintro e w1 ⟨rfl, hb⟩; have T1_ := Aside0.mk (own_below HO.out hb); clear HO; have HO := T1_; clear T1_; have T1_ := Aside0.mk (below_step HB.out hb); clear HB; have HB := T1_; clear T1_ hb)) | (at_lookup; refine wpList_lookup_own_bool _ rfl _ _ 128 rfl 22 4 law Tryd.underlying128 Tryd.underlying4 (zero4 _) w.heap.size j D rfl HO.out _ _ rfl (key_u64 m (by omega)) ?_; intro c hat; rw [AT.out] at hat; obtain rfl : c = false := (by injection hat with h; injection h with h; exact h.symm)) | (at_mapUpdate; refine wpList_mapUpdate_own _ rfl _ _ _ 128 rfl 22 4 law Tryd.underlying128 _ w.heap.size j D rfl HO.out (by unfold maxLen; omega) _ _ _ rfl rfl (key_u64 m (by omega)) _ [] (plainElem_bool Tryd.underlying4 true) ?_; intro w2 hown2 hg2; have HO2 := Aside0.mk hown2; have B2 := Aside0.mk (HB.out.grown hg2 HB.out.size (fun k e => by injection e with e; omega)); clear hown2 hg2))
        go_roundw
        case rel => exact ⟨j + 1, _, by go_num, by omega, HO2.out, HS2, HN2, B2.out⟩
        case measure => simp [intOf]; omega
    · obtain rfl : j = n := by omega
      go_wp2
      go_ret
      refine ⟨?_, HB.out⟩
      have hN := HN.out
      rw [List.take_of_length_le (by have := HL.out; omega)] at hN
      rw [← RES.out, if_pos hN]
      rfl
end Go.Proofs.YtbfgppecpkfcnaaDoor.Ap
