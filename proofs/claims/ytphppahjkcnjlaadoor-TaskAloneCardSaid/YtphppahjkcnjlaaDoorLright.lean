-- What a right set is, task by task (no program in sight).
-- PLAIN
import Derived.Test.YtphppahjkcnjlaaDoorQ0
import Derived.Test.YtphppahjkcnjlaaDoorHnamed
import Derived.Test.YtphppahjkcnjlaaDoorLtask
import Derived.Test.YtphppahjkcnjlaaDoorLtask
namespace Go.Proofs.YtphppahjkcnjlaaDoor.Q
open Go.RowKit Go.Proofs.YtphppahjkcnjlaaDoorW.PrintWords Go.Proofs.YtphppahjkcnjlaaDoorW.PrintLast Go.Proofs.YtphppahjkcnjlaaDoorW.PrintMore
attribute [local go_sem] max2_int min2_int max_two min_two max_three min_three max_four min_four   -- for this text's walks alone
set_option linter.unusedVariables false
set_option linter.unusedSimpArgs false

theorem whyT_zero {t : TK} {a : List TK} : whyT t a = 0 ↔ tNamed t a = true ∧ tTimed t = true ∧ tModed t = true ∧ tFirm t = true ∧ tRanked t a = true := by
  unfold whyT
  cases tNamed t a <;> cases tTimed t <;> cases tModed t <;> cases tFirm t <;> cases tRanked t a <;> simp
theorem whyT_range (t : TK) (a : List TK) : whyT t a = 0 ∨ (3 ≤ whyT t a ∧ whyT t a ≤ 7) := by
  unfold whyT
  repeat' split
  all_goals omega
theorem whyFrom_zero : ∀ (l a : List TK) (i : Int), (whyFrom l a i).1 = 0 ↔ ∀ j (h : j < l.length), whyT l[j] (a ++ l.take j) = 0
  | [], a, i => by simp [whyFrom]
  | t :: r, a, i => by
    rw [whyFrom]
    by_cases h : whyT t a = 0
    · rw [if_pos h, whyFrom_zero r (a ++ [t]) (i + 1)]
      constructor
      · intro hr j hj
        cases j with
        | zero => simpa using h
        | succ j => have := hr j (by simpa using hj); simpa using this
      · intro hr j hj
        have := hr (j + 1) (by simpa using hj)
        simpa using this
    · rw [if_neg h]
      constructor
      · intro h0; exact absurd h0 h
      · intro hr; have := hr 0 (by simp); exact absurd (by simpa using this) h
theorem whyFrom_zero2 : ∀ (l a : List TK) (i : Int), (whyFrom l a i).1 = 0 → whyFrom l a i = (0, -1)
  | [], a, i, _ => rfl
  | t :: r, a, i, h => by
    rw [whyFrom] at h ⊢
    by_cases h0 : whyT t a = 0
    · rw [if_pos h0] at h ⊢; exact whyFrom_zero2 r _ _ h
    · rw [if_neg h0] at h; exact absurd h h0
/-- A right set. -/
structure RightS (b : Int) (ts : List TK) : Prop where
  b0 : 1 ≤ b
  b1 : b ≤ 1000
  n0 : 1 ≤ ts.length
  n1 : ts.length ≤ 16
  each : ∀ j (h : j < ts.length), whyT ts[j] (ts.take j) = 0
theorem rightS_iff (b : Int) (ts : List TK) : (whyS b ts).1 = 0 ↔ RightS b ts := by
  unfold whyS
  constructor
  · intro h
    split at h
    · exact absurd h (by show ¬ (1 : Int) = 0; decide)
    · rename_i h1
      split at h
      · exact absurd h (by show ¬ (2 : Int) = 0; decide)
      · rename_i h2
        unfold inB at h1 h2
        simp at h1 h2
        have := (whyFrom_zero ts [] 0).1 h
        exact ⟨h1.1, h1.2, by omega, by omega, fun j hj => by have := this j hj; simpa using this⟩
  · intro h
    have h1 := h.b0; have h2 := h.b1; have h3 := h.n0; have h4 := h.n1
    rw [if_neg (by unfold inB; simp; omega), if_neg (by unfold inB; simp; omega)]
    exact (whyFrom_zero ts [] 0).2 (fun j hj => by have := h.each j hj; simpa using this)
theorem RightS.why {b : Int} {ts : List TK} (h : RightS b ts) : whyS b ts = (0, -1) := by
  have h0 := (rightS_iff b ts).2 h
  unfold whyS at h0 ⊢
  have h1 := h.b0; have h2 := h.b1; have h3 := h.n0; have h4 := h.n1
  rw [if_neg (by unfold inB; simp; omega), if_neg (by unfold inB; simp; omega)] at h0 ⊢
  exact whyFrom_zero2 _ _ _ h0
/-- What is known of one task. -/
structure RightT (t : TK) : Prop where
  named : named t.f0 = true
  timed : 1 ≤ t.f1 ∧ t.f1 ≤ 1048576 ∧ 1 ≤ t.f2 ∧ t.f2 ≤ t.f1 ∧ 1 ≤ t.f3 ∧ t.f3 ≤ t.f2 ∧ 0 ≤ t.f6 ∧ t.f6 ≤ 1000
  modeA : 1 ≤ t.f9 ∧ t.f9 ≤ 3
  mode1 : t.f9 = 1 → 1 ≤ t.f5 ∧ t.f5 ≤ t.f3 ∧ t.f4 = 0
  mode2 : t.f9 ≠ 1 → 1 ≤ t.f4 ∧ t.f4 ≤ t.f2 ∧ t.f5 = 0
  firm : 1 ≤ t.f8 ∧ t.f8 ≤ 64 ∧ 1 ≤ t.f7 ∧ t.f7 ≤ t.f8
  prio : 0 ≤ t.f10 ∧ t.f10 ≤ 255
theorem rightT_iff {t : TK} {a : List TK} : whyT t a = 0 ↔ RightT t ∧ (∀ x ∈ a, x.f0 ≠ t.f0) ∧ (∀ x ∈ a, x.f10 ≠ t.f10) := by
  have hba : ∀ x y : ByteArray, (x.toList == y.toList) = decide (x = y) := by
    intro x y
    rw [Bool.eq_iff_iff, beq_iff_eq, decide_eq_true_iff, Lib.toList_data, Lib.toList_data]
    constructor
    · intro h
      cases x; cases y
      simp only [ByteArray.mk.injEq]
      exact Array.ext' h
    · rintro rfl; rfl
  rw [whyT_zero]
  unfold tNamed tTimed tModed tFirm tRanked inB
  simp only [hba, Bool.and_eq_true, Bool.not_eq_true', List.any_eq_false, decide_eq_true_eq, beq_iff_eq]
  constructor
  · rintro ⟨⟨h1, h2⟩, ⟨⟨⟨h3, h4⟩, h5⟩, h6⟩, h7, ⟨h8, h9⟩, h10, h11⟩
    by_cases hm : t.f9 = 1
    · rw [if_pos hm] at h7
      simp only [Bool.and_eq_true, decide_eq_true_eq, beq_iff_eq] at h7
      exact ⟨⟨h1, by omega, by omega, fun _ => by omega, fun h => absurd hm h, by omega, by omega⟩, h2, h11⟩
    · rw [if_neg hm] at h7
      simp only [Bool.and_eq_true, decide_eq_true_eq, beq_iff_eq] at h7
      exact ⟨⟨h1, by omega, by omega, fun h => absurd h hm, fun _ => by omega, by omega, by omega⟩, h2, h11⟩
  · rintro ⟨h, h2, h11⟩
    have g1 := h.timed; have g2 := h.modeA; have g3 := h.mode1; have g4 := h.mode2; have g5 := h.firm; have g6 := h.prio
    refine ⟨⟨h.named, h2⟩, by omega, ?_, by omega, by omega, h11⟩
    by_cases hm : t.f9 = 1
    · have := g3 hm
      rw [if_pos hm]
      simp only [Bool.and_eq_true, decide_eq_true_eq, beq_iff_eq]; omega
    · have := g4 hm
      rw [if_neg hm]
      simp only [Bool.and_eq_true, decide_eq_true_eq, beq_iff_eq]; omega
theorem RightS.task {b : Int} {ts : List TK} (h : RightS b ts) {t : TK} (ht : t ∈ ts) : RightT t := by
  obtain ⟨j, hj, rfl⟩ := List.mem_iff_getElem.1 ht
  exact (rightT_iff.1 (h.each j hj)).1
theorem RightS.apart {b : Int} {ts : List TK} (h : RightS b ts) (i j : Nat) (hi : i < ts.length) (hj : j < ts.length) (hij : i ≠ j) : ts[i].f0 ≠ ts[j].f0 ∧ ts[i].f10 ≠ ts[j].f10 := by
  have key : ∀ i j (hi : i < ts.length) (hj : j < ts.length), i < j → ts[i].f0 ≠ ts[j].f0 ∧ ts[i].f10 ≠ ts[j].f10 := by
    intro i j hi hj hij
    have h1 := (rightT_iff.1 (h.each j hj)).2
    have hm : ts[i] ∈ ts.take j := by
      rw [List.mem_take_iff_getElem]
      exact ⟨i, by omega, rfl⟩
    exact ⟨h1.1 _ hm, h1.2 _ hm⟩
  rcases Nat.lt_or_gt_of_ne hij with h1 | h1
  · exact key i j hi hj h1
  · have := key j i hj hi h1
    exact ⟨fun e => this.1 e.symm, fun e => this.2 e.symm⟩
theorem RightS.nodup {b : Int} {ts : List TK} (h : RightS b ts) : (ts.map (fun t => t.f10)).Nodup := by
  refine List.pairwise_iff_getElem.2 (fun i j hi hj hij => ?_)
  simp only [List.length_map] at hi hj
  simpa using (h.apart i j hi hj (by omega)).2
/-- A right set, told of its tasks. -/
theorem RightS.mk' {b : Int} {ts : List TK} (b0 : 1 ≤ b) (b1 : b ≤ 1000) (n0 : 1 ≤ ts.length) (n1 : ts.length ≤ 16) (ht : ∀ t ∈ ts, RightT t) (hp : ∀ i j (hi : i < ts.length) (hj : j < ts.length), i < j → ts[i].f0 ≠ ts[j].f0 ∧ ts[i].f10 ≠ ts[j].f10) : RightS b ts :=
  ⟨b0, b1, n0, n1, fun j hj => rightT_iff.2 ⟨ht _ (List.getElem_mem hj), fun x hx => by
    obtain ⟨i, hi, rfl⟩ := List.mem_take_iff_getElem.1 hx
    exact (hp i j (by omega) hj (by omega)).1, fun x hx => by
    obtain ⟨i, hi, rfl⟩ := List.mem_take_iff_getElem.1 hx
    exact (hp i j (by omega) hj (by omega)).2⟩⟩
end Go.Proofs.YtphppahjkcnjlaaDoor.Q
