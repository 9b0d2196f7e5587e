/-
  The walk of PolyTells, all cases, over slices and a struct as lists and numbers.
-/
import Derived.Test.YtbfgppecpkfcnaaDoorTells
import Derived.Test.YtbfgppecpkfcnaaDoorOpen
namespace Go.Proofs.YtbfgppecpkfcnaaDoor.PPoly
open Go.RowKit Go.Proofs.YtbfgppecpkfcnaaDoorW.PrintWords Go.Proofs.YtbfgppecpkfcnaaDoorW.PrintLast Go.Proofs.YtbfgppecpkfcnaaDoorW.PrintMore Go.Proofs.YtbfgppecpkfcnaaDoor.PFp Go.Proofs.YtbfgppecpkfcnaaDoor.Fq

theorem pairs_Qs {w : World} {B : Option Addr} {l : List (Int × Int)} (h : Open.Pairs .u64 w B l) (hw : ∀ x ∈ l, (Lit.int .u64 x.1).wf = true ∧ (Lit.int .u64 x.2).wf = true) (hl : l.length ≤ 9223372036854775807) : ∃ p, p.length = l.length ∧ PtU p ∧ Qs l.length w B (p69 p) := by
  have hb : ∀ x ∈ l, (0 ≤ x.1 ∧ x.1 < 18446744073709551616) ∧ (0 ≤ x.2 ∧ x.2 < 18446744073709551616) := fun x hx => ⟨bounds_u64 (hw x hx).1, bounds_u64 (hw x hx).2⟩
  refine ⟨l.map fun s => (s.1.toNat, s.2.toNat), by simp, ⟨?_, ?_⟩, ?_⟩
  · intro x hx
    simp only [pX, List.map_map, List.mem_map] at hx
    obtain ⟨s, hs, rfl⟩ := hx
    have := (hb s hs).1
    show s.1.toNat < _
    omega
  · intro x hx
    simp only [pY, List.map_map, List.mem_map] at hx
    obtain ⟨s, hs, rfl⟩ := hx
    have := (hb s hs).2
    show s.2.toNat < _
    omega
  · refine ⟨by simp [p69], hl, fun hp => ?_⟩
    obtain ⟨b, off, rfl, hc⟩ := h hp
    refine ⟨_, rfl, fun j q hj => ?_⟩
    have hjl : j < l.length := by
      have := (List.getElem?_eq_some_iff.1 hj).1
      simpa [p69] using this
    obtain ⟨h0, h1⟩ := hc j hjl
    have hs := hb _ (List.getElem_mem hjl)
    have eg : l.getD j (0, 0) = l[j] := by simp [List.getD, hjl]
    rw [eg] at h0 h1
    have eq : q = (⟨l[j].1, l[j].2⟩ : S69) := by
      have h2 := (List.getElem?_eq_some_iff.1 hj).2
      rw [← h2]
      simp [p69]
      omega
    subst eq
    refine ⟨[.int .u64 l[j].1, .int .u64 l[j].2], rfl, k69_mk w _, fun i u hi => ?_⟩
    show w.cell? ((⟨b, off, none⟩ : Addr).add (j * 2 + i)) = _
    rw [Addr.add_lit]
    match i, hi with
    | 0, hi => simp at hi; subst hi; exact h0
    | 1, hi => simp at hi; subst hi; rw [show off + (j * 2 + 1) = off + j * 2 + 1 by omega]; exact h1
    | i + 2, hi => simp at hi
theorem tells_wf (_ : True) (A : Option Addr) (ca : Nat) (l0 : List Int) (B : Option Addr) (cb : Nat) (l1 : List (Int × Int)) (t many : Int) (w : World) (hG : As.LaidG w)
    (C0 : (Kd.int .u64).C w A l0.length l0) (D0 : l0.length ≤ ca) (_ : ca ≤ maxLen) (w0 : ∀ x ∈ l0, (Lit.int .u64 x).wf = true)
    (C1 : Open.Pairs .u64 w B l1) (D1 : l1.length ≤ cb) (_ : cb ≤ maxLen) (w1 : ∀ x ∈ l1, (Lit.int .u64 x.1).wf = true ∧ (Lit.int .u64 x.2).wf = true) (w2 : (Lit.int .u64 t).wf = true) (_ : (Lit.int .i64 many).wf = true) :
    Calls Tryd.prog 10 #[.slice A l0.length ca, .slice B l1.length cb, .agg #[.int .u64 t, .int .i64 many]] w fun x w' => x = .returned (.bool true) ∧ Below w.heap.size w w' := by
  by_cases hs : 40 < l0.length ∨ (16 < l1.length ∧ l1.length ≤ 64) ∨ 100 < l1.length
  · exact tells_sure A B l0.length l1.length ca cb t many w hG hs
  · obtain ⟨L, hL, hU⟩ := nl_of l0 w0
    obtain ⟨p, hp, hPU, hQ⟩ := pairs_Qs C1 w1 (by omega)
    have ht := bounds_u64 w2
    obtain ⟨t, rfl⟩ := Int.eq_ofNat_of_zero_le ht.1
    have S : Start w A B l0.length l1.length ca cb L p t := ⟨hG, by rw [← hL]; exact C0, hQ, D0, D1, by rw [hL, nl_len], hp, hU, hPU, by omega⟩
    by_cases h64 : 64 < l1.length
    · refine tells_b_err A B l0.length l1.length ca cb L p t many w S (by omega) ⟨1, ?_⟩ (by omega)
      unfold apC
      rw [if_pos (by rw [pX_len]; omega)]
    · cases hap : apC (pX p) with
      | some e => exact tells_a_err A B l0.length l1.length ca cb L p t many w S (by omega) ⟨e, hap⟩ (by omega)
      | none => exact tells_a_ok A B l0.length l1.length ca cb L p t many w S (by omega) hap (by omega)
end Go.Proofs.YtbfgppecpkfcnaaDoor.PPoly
