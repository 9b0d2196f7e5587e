/-
  Plain facts on tallies: what stays so whatever is told, and that what is decided stays.
-/
import Derived.Test.YtfomajippdcaoaaDoorQSure
namespace Go.Proofs.YtfomajippdcaoaaDoor.Qu
open Go.RowKit Go.Proofs.YtfomajippdcaoaaDoorW.PrintWords Go.Proofs.YtfomajippdcaoaaDoorW.PrintLast Go.Proofs.YtfomajippdcaoaaDoorW.PrintMore Go.Proofs.YtfomajippdcaoaaDoor.PSet Go.Proofs.YtfomajippdcaoaaDoor.Sc

/-- sets in order; who came, and who is gone, are two parts of who there is -/
structure Iv (who inn gone : List Int) : Prop where
  w : SetL who
  i : SetL inn
  g : SetL gone
  iw : ∀ x ∈ inn, x ∈ who
  gw : ∀ x ∈ gone, x ∈ who
  ig : ∀ x ∈ inn, ¬ x ∈ gone
theorem mem_more (l : List Int) (id x : Int) : x ∈ more l id ↔ (0 ≤ x ∧ x < 64) ∧ (x ∈ l ∨ x = id) := by
  unfold more
  rw [mem_sel]
  constructor
  · rintro ⟨h1, h2, h3⟩
    rw [show ((x.toNat : Nat) : Int) = x by omega] at h3
    simp only [Bool.or_eq_true, decide_eq_true_eq, List.mem_singleton] at h3
    exact ⟨⟨h1, h2⟩, h3⟩
  · rintro ⟨⟨h1, h2⟩, h3⟩
    refine ⟨h1, h2, ?_⟩
    rw [show ((x.toNat : Nat) : Int) = x by omega]
    simp only [Bool.or_eq_true, decide_eq_true_eq, List.mem_singleton]
    exact h3
theorem SetL.range {l : List Int} (h : SetL l) (x : Int) (hx : x ∈ l) : 0 ≤ x ∧ x < 64 := by
  rw [← h, mem_sel] at hx
  exact ⟨hx.1, hx.2.1⟩
theorem filt_le (l : List Nat) (P Q R : Nat → Bool) (h1 : ∀ n, P n = true → R n = true ∧ Q n = false) (h2 : ∀ n, Q n = true → R n = true) : (l.filter P).length + (l.filter Q).length ≤ (l.filter R).length := by
  induction l with
  | nil => simp
  | cons a l ih =>
    simp only [List.filter_cons]
    cases hp : P a with
    | true =>
      obtain ⟨e1, e2⟩ := h1 a hp
      simp only [e1, e2, if_true, List.length_cons, Bool.false_eq_true, if_false]
      omega
    | false =>
      cases hq : Q a with
      | true =>
        simp only [h2 a hq, if_true, List.length_cons, Bool.false_eq_true, if_false]
        omega
      | false =>
        simp only [Bool.false_eq_true, if_false]
        split
        · simp only [List.length_cons]; omega
        · exact ih
theorem filt_eq (l : List Nat) (P R : Nat → Bool) (h1 : ∀ n, P n = true → R n = true) : (l.filter P).length + (l.filter (fun n => R n && !P n)).length = (l.filter R).length := by
  induction l with
  | nil => simp
  | cons a l ih =>
    simp only [List.filter_cons]
    cases hp : P a with
    | true =>
      simp only [h1 a hp, if_true, List.length_cons, Bool.not_true, Bool.and_false, Bool.false_eq_true, if_false]
      omega
    | false =>
      cases hr : R a with
      | true => simp only [Bool.not_false, Bool.and_true, if_true, List.length_cons, Bool.false_eq_true, if_false]; omega
      | false => simp only [Bool.false_and, Bool.false_eq_true, if_false]; exact ih
theorem Iv.parts {who inn gone : List Int} (h : Iv who inn gone) : inn.length + gone.length ≤ who.length := by
  rw [← h.i, ← h.g, ← h.w]
  unfold sel
  simp only [List.length_map]
  refine filt_le _ _ _ _ (fun n hn => ?_) (fun n hn => ?_)
  · have := of_decide_eq_true hn
    exact ⟨decide_eq_true (h.iw _ this), decide_eq_false (h.ig _ this)⟩
  · exact decide_eq_true (h.gw _ (of_decide_eq_true hn))
theorem Iv.lacks {who inn gone : List Int} (h : Iv who inn gone) : inn.length + (sel (pick 2 who inn)).length = who.length := by
  have e : (sel (pick 2 who inn)) = sel (fun n => decide ((n : Int) ∈ who) && !decide ((n : Int) ∈ inn)) := rfl
  rw [e]
  have h1 : inn.length = (sel (fun n => decide ((n : Int) ∈ inn))).length := by rw [h.i]
  have h2 : who.length = (sel (fun n => decide ((n : Int) ∈ who))).length := by rw [h.w]
  rw [h1, h2]
  unfold sel
  simp only [List.length_map]
  exact filt_eq _ _ _ (fun n hn => decide_eq_true (h.iw _ (of_decide_eq_true hn)))
theorem acode_zero {who inn gone : List Int} {need left id : Int} (h : acode who inn gone need left id = 0) : st who inn gone need left = 0 ∧ (0 ≤ id ∧ id < 64) ∧ id ∈ who ∧ ¬ id ∈ inn ∧ ¬ id ∈ gone := by
  unfold acode at h
  split at h
  · rename_i h0
    split at h
    · rename_i h1
      have h1' := of_decide_eq_true h1
      split at h
      · cases h
      · rename_i h2
        split at h
        · cases h
        · rename_i h3
          refine ⟨h0, ⟨h1'.1, h1'.2.1⟩, h1'.2.2, fun hm => h2 (decide_eq_true ⟨h1'.1, h1'.2.1, hm⟩), fun hm => h3 (decide_eq_true ⟨h1'.1, h1'.2.1, hm⟩)⟩
    · cases h
  · cases h
theorem Iv.came {who inn gone : List Int} {need left : Int} (id : Int) (h : Iv who inn gone) : Iv who (if acode who inn gone need left id = 0 then more inn id else inn) gone := by
  by_cases hc : acode who inn gone need left id = 0
  · rw [if_pos hc]
    obtain ⟨_, _, h2, h3, h4⟩ := acode_zero hc
    refine ⟨h.w, SetL.more _ _, h.g, fun x hx => ?_, h.gw, fun x hx => ?_⟩
    · rcases ((mem_more _ _ _).1 hx).2 with hx | rfl
      · exact h.iw x hx
      · exact h2
    · rcases ((mem_more _ _ _).1 hx).2 with hx | rfl
      · exact h.ig x hx
      · exact h4
  · rw [if_neg hc]; exact h
theorem Iv.went {who inn gone : List Int} {need left : Int} (id : Int) (h : Iv who inn gone) : Iv who inn (if acode who inn gone need left id = 0 then more gone id else gone) := by
  by_cases hc : acode who inn gone need left id = 0
  · rw [if_pos hc]
    obtain ⟨_, _, h2, h3, h4⟩ := acode_zero hc
    refine ⟨h.w, h.i, SetL.more _ _, h.iw, fun x hx => ?_, fun x hx hg => ?_⟩
    · rcases ((mem_more _ _ _).1 hx).2 with hx | rfl
      · exact h.gw x hx
      · exact h2
    · rcases ((mem_more _ _ _).1 hg).2 with hg | rfl
      · exact h.ig x hx hg
      · exact h3 hx
  · rw [if_neg hc]; exact h

/-- what holds of a tally at any time: term ticks there were to be, tk went by -/
structure Ok (who inn gone : List Int) (need left term tk : Int) : Prop where
  iv : Iv who inn gone
  l0 : 0 ≤ left
  l1 : left ≤ term
  k0 : 0 ≤ tk
  lk : st who inn gone need left = 0 → left + tk = term
/-- what an act may change: nothing, as soon as it is decided -/
def Stay (who inn gone : List Int) (need left : Int) (inn' gone' : List Int) (left' : Int) : Prop :=
  st who inn gone need left ≠ 0 → inn' = inn ∧ gone' = gone ∧ left' = left
section
variable {who inn gone : List Int} {need left term tk : Int}
theorem Ok.came (id : Int) (h : Ok who inn gone need left term tk) : Ok who (if acode who inn gone need left id = 0 then more inn id else inn) gone need left term tk ∧ Stay who inn gone need left (if acode who inn gone need left id = 0 then more inn id else inn) gone left := by
  by_cases hc : acode who inn gone need left id = 0
  · have h0 := (acode_zero hc).1
    refine ⟨⟨h.iv.came id, h.l0, h.l1, h.k0, fun _ => h.lk h0⟩, fun hn => absurd h0 hn⟩
  · rw [if_neg hc]
    exact ⟨h, fun _ => ⟨rfl, rfl, rfl⟩⟩
theorem Ok.went (id : Int) (h : Ok who inn gone need left term tk) : Ok who inn (if acode who inn gone need left id = 0 then more gone id else gone) need left term tk ∧ Stay who inn gone need left inn (if acode who inn gone need left id = 0 then more gone id else gone) left := by
  by_cases hc : acode who inn gone need left id = 0
  · have h0 := (acode_zero hc).1
    refine ⟨⟨h.iv.went id, h.l0, h.l1, h.k0, fun _ => h.lk h0⟩, fun hn => absurd h0 hn⟩
  · rw [if_neg hc]
    exact ⟨h, fun _ => ⟨rfl, rfl, rfl⟩⟩
theorem st_left {who inn gone : List Int} {need left : Int} (h : st who inn gone need left = 0) : left ≠ 0 := by
  rintro rfl
  unfold st stq at h
  rw [if_pos (Or.inr rfl)] at h
  split at h <;> cases h
theorem Ok.tick (h : Ok who inn gone need left term tk) : Ok who inn gone need (if st who inn gone need left = 0 then left - 1 else left) term (tk + 1) ∧ Stay who inn gone need left inn gone (if st who inn gone need left = 0 then left - 1 else left) := by
  have hk := h.k0
  have hl := h.l0
  have hl1 := h.l1
  by_cases hc : st who inn gone need left = 0
  · rw [if_pos hc]
    have := st_left hc
    have h2 := h.lk hc
    exact ⟨⟨h.iv, by omega, by omega, by omega, fun _ => by omega⟩, fun hn => absurd hc hn⟩
  · rw [if_neg hc]
    exact ⟨⟨h.iv, h.l0, h.l1, by omega, fun h0 => absurd h0 hc⟩, fun _ => ⟨rfl, rfl, rfl⟩⟩
theorem Ok.open (h : Ok who inn gone need left term tk) (h0 : st who inn gone need left = 0) : tk < term := by
  have := h.lk h0
  have := st_left h0
  have := h.l0
  omega
theorem Ok.one (_ : Ok who inn gone need left term tk) (h1 : st who inn gone need left = 1) : need ≤ inn.length := by
  unfold st stq at h1
  split at h1
  · split at h1
    · assumption
    · cases h1
  · split at h1 <;> cases h1
theorem Ok.two (h : Ok who inn gone need left term tk) (h2 : st who inn gone need left = 2) : (inn.length : Int) < need := by
  have hp := h.iv.parts
  unfold st stq at h2
  split at h2
  · split at h2
    · cases h2
    · omega
  · split at h2
    · omega
    · cases h2
end
end Go.Proofs.YtfomajippdcaoaaDoor.Qu
