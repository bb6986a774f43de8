-- The parser goes on with fewer tokens, or fails (no program in sight).
-- PLAIN
import Derived.Test.YtddbkcfdfgehkaaDoorQ0
import Derived.Test.YtddbkcfdfgehkaaDoorLpars
import Derived.Test.YtddbkcfdfgehkaaDoorLpars
namespace Go.Proofs.YtddbkcfdfgehkaaDoor.Q
open Go.RowKit Go.Proofs.YtddbkcfdfgehkaaDoorW.PrintWords Go.Proofs.YtddbkcfdfgehkaaDoorW.PrintLast Go.Proofs.YtddbkcfdfgehkaaDoorW.PrintMore
attribute [local go_sem] max2_int min2_int max_two min_two max_three min_three max_four min_four   -- for this text's walks alone
set_option linter.unusedVariables false
set_option linter.unusedSimpArgs false

theorem take_len (q : PS) (k : Int) (tx : List ByteArray) : (q.take k tx).1.l.length ≤ q.l.length := by
  unfold PS.take PS.fail
  split
  · simp
  · split <;> simp
theorem take_e (q : PS) (k : Int) (tx : List ByteArray) (h : q.e ≠ 0) : (q.take k tx).1.e ≠ 0 := by
  unfold PS.take PS.fits PS.fail
  have : (q.e == 0) = false := beq_eq_false_iff_ne.2 h
  rw [this]
  simp [h]
theorem take_lt (q : PS) (k : Int) (tx : List ByteArray) (hl : q.l ≠ []) (h : (q.take k tx).1.e = 0) : (q.take k tx).1.l.length < q.l.length := by
  have hp := List.length_pos_iff.2 hl
  unfold PS.take at h ⊢
  split
  · simp; omega
  · rename_i hf
    rw [if_neg hf] at h
    unfold PS.fail at h
    split at h
    · exact absurd h (by show ¬ (5 : Int) = 0; omega)
    · rename_i hn; exact absurd h hn
theorem take_hs (q : PS) (k : Int) (tx : List ByteArray) : (q.take k tx).1.hs = q.hs ∧ (q.take k tx).1.ts = q.ts ∧ (q.take k tx).1.b = q.b ∧ (q.take k tx).1.bt = q.bt := by
  unfold PS.take PS.fail
  split
  · exact ⟨rfl, rfl, rfl, rfl⟩
  · split <;> exact ⟨rfl, rfl, rfl, rfl⟩
theorem nums_len2 (n : Nat) (q : PS) : (PS.nums n q).1.l.length ≤ q.l.length := by
  induction n with
  | zero => exact Nat.le_refl _
  | succ n ih => exact Nat.le_trans (take_len _ 2 []) ih
theorem nums_e (n : Nat) (q : PS) (h : q.e ≠ 0) : (PS.nums n q).1.e ≠ 0 := by
  induction n with
  | zero => exact h
  | succ n ih => exact take_e _ 2 [] ih
theorem nums_hs (n : Nat) (q : PS) : (PS.nums n q).1.hs = q.hs ∧ (PS.nums n q).1.ts = q.ts := by
  induction n with
  | zero => exact ⟨rfl, rfl⟩
  | succ n ih =>
    have h := take_hs (PS.nums n q).1 2 []
    exact ⟨h.1.trans ih.1, h.2.1.trans ih.2⟩
theorem fin_len (q : PS) : q.fin.l.length ≤ q.l.length := by
  unfold PS.fin
  split
  · exact Nat.le_refl _
  · exact take_len _ 3 []
theorem fin_e (q : PS) (h : q.e ≠ 0) : q.fin.e ≠ 0 := by
  unfold PS.fin
  split
  · exact h
  · exact take_e _ 3 [] h
theorem fin_hs (q : PS) : q.fin.hs = q.hs ∧ q.fin.ts = q.ts := by
  unfold PS.fin
  split
  · exact ⟨rfl, rfl⟩
  · exact ⟨(take_hs q 3 []).1, (take_hs q 3 []).2.1⟩
theorem blank_len (q : PS) : q.blank.l.length ≤ q.l.length := by
  unfold PS.blank
  have : ∀ l : List TOK, (l.dropWhile (fun t => t.f0 == 3)).length ≤ l.length := by
    intro l
    induction l with
    | nil => exact Nat.le_refl _
    | cons a r ih =>
      rw [List.dropWhile_cons]
      split
      · exact Nat.le_trans ih (by simp)
      · exact Nat.le_refl _
  exact this _
theorem one_hs (q : PS) : q.one.hs.length = q.hs.length + 1 ∧ q.one.ts.length = q.ts.length + 1 := by
  unfold PS.one
  constructor
  · simp only
    rw [(fin_hs _).1, (nums_hs _ _).1, (take_hs _ _ _).1, (nums_hs _ _).1, (take_hs _ _ _).1, (take_hs _ _ _).1]
    simp
  · simp only [List.length_append, List.length_cons, List.length_nil]
    rw [(fin_hs _).2, (nums_hs _ _).2, (take_hs _ _ _).2.1, (nums_hs _ _).2, (take_hs _ _ _).2.1, (take_hs _ _ _).2.1]
theorem one_len (q : PS) (hl : q.l ≠ []) (h : q.one.e = 0) : q.one.l.length < q.l.length := by
  obtain ⟨p1, hp1⟩ : ∃ p1 : PS, { q with hs := q.hs ++ [q.now] } = p1 := ⟨_, rfl⟩
  have hl1 : p1.l = q.l := by rw [← hp1]
  have key : (p1.take 1 [wTask]).1.e = 0 := by
    rcases Decidable.em ((p1.take 1 [wTask]).1.e = 0) with h0 | h0
    · exact h0
    · refine absurd h ?_
      unfold PS.one
      simp only [hp1]
      exact fin_e _ (nums_e _ _ (take_e _ _ _ (nums_e _ _ (take_e _ _ _ h0))))
  have h2 := take_lt p1 1 [wTask] (by rw [hl1]; exact hl) key
  rw [hl1] at h2
  refine Nat.lt_of_le_of_lt ?_ h2
  unfold PS.one
  simp only [hp1]
  exact Nat.le_trans (fin_len _) (Nat.le_trans (nums_len2 _ _) (Nat.le_trans (take_len _ _ _) (Nat.le_trans (nums_len2 _ _) (take_len _ _ _))))
theorem first_hs (q : PS) : q.first.hs = q.hs ∧ q.first.ts = q.ts := by
  unfold PS.first
  simp only
  constructor
  · rw [(fin_hs _).1]; show ((_ : PS).take 2 []).1.hs = _; rw [(take_hs _ _ _).1]; exact (take_hs _ _ _).1
  · rw [(fin_hs _).2]; show ((_ : PS).take 2 []).1.ts = _; rw [(take_hs _ _ _).2.1]; exact (take_hs _ _ _).2.1
theorem first_len (q : PS) : q.first.l.length ≤ q.l.length := by
  unfold PS.first
  simp only
  refine Nat.le_trans (fin_len _) ?_
  show ((_ : PS).take 2 []).1.l.length ≤ _
  exact Nat.le_trans (take_len _ _ _) (take_len _ _ _)
theorem go_done (n : Nat) (q : PS) (h : ¬ (q.e = 0 ∧ q.now.f0 ≠ 4)) : PS.go n q = q := by
  cases n with
  | zero => rfl
  | succ n => rw [PS.go, if_neg h]
end Go.Proofs.YtddbkcfdfgehkaaDoor.Q
