-- The reference's Named tells what index.Named tells (no program in sight).
-- NEEDS pendulum/pendulumref03.Named
-- NEEDS pendulum/index.Named
-- PLAIN
import Derived.Test.YtphppahjkcnjlaaDoorQ0
import Derived.Test.YtphppahjkcnjlaaDoorQ8
import Derived.Test.YtphppahjkcnjlaaDoorHnamed
import Derived.Test.YtphppahjkcnjlaaDoorHnamed
namespace Go.Proofs.YtphppahjkcnjlaaDoor.Q
open Go.RowKit Go.Proofs.YtphppahjkcnjlaaDoorW.PrintWords Go.Proofs.YtphppahjkcnjlaaDoorW.PrintLast Go.Proofs.YtphppahjkcnjlaaDoorW.PrintMore
attribute [local go_sem] max2_int min2_int max_two min_two max_three min_three max_four min_four   -- for this text's walks alone
set_option linter.unusedVariables false
set_option linter.unusedSimpArgs false

theorem wrap_ok0 {x : Int} (h0 : -1000000000000000000 ≤ x) (h1 : x ≤ 1000000000000000000) : wrap64 x = x := by unfold wrap64; omega
def okc (c : Int) : Bool := (decide (97 ≤ c) && decide (c ≤ 122)) || (decide (48 ≤ c) && decide (c ≤ 57)) || (c == 95)
theorem okc_all : ∀ n : Fin 256, nOthers.contains (UInt8.ofNat n.val) = okc (n.val : Int) := by decide +kernel
theorem let_all : ∀ n : Fin 256, nLetters.contains (UInt8.ofNat n.val) = (decide (97 ≤ (n.val : Int)) && decide ((n.val : Int) ≤ 122)) := by decide +kernel
theorem okc_u (b : UInt8) : nOthers.contains b = okc (b.toNat : Int) := by
  have h := okc_all ⟨b.toNat, UInt8.toNat_lt b⟩
  simpa using h
theorem let_u (b : UInt8) : nLetters.contains b = (decide (97 ≤ (b.toNat : Int)) && decide ((b.toNat : Int) ≤ 122)) := by
  have h := let_all ⟨b.toNat, UInt8.toNat_lt b⟩
  simpa using h
theorem bt_cell (a : ByteArray) (i : Nat) (h : i < a.size) : ∃ b : UInt8, a.data.toList.drop i = b :: a.data.toList.drop (i + 1) ∧ bt a (i : Int) = (b.toNat : Int) := by
  have hl : i < a.data.toList.length := by simpa using h
  refine ⟨a.data.toList[i], (List.drop_eq_getElem_cons hl), ?_⟩
  unfold bt
  rw [dif_pos (by simpa using h)]
  simp [ByteArray.getElem_eq_getElem_data]
theorem named_step (k : Nat) (a : ByteArray) (i : Nat) (h : i < a.size) (hs : a.size ≤ 12) : pendulumref03_Named.l0 (k + 1) a (i : Int) = if okc (bt a (i : Int)) = true then pendulumref03_Named.l0 k a ((i + 1 : Nat) : Int) else some false := by
  have hw : wrap64 ((i : Int) + 1) = ((i + 1 : Nat) : Int) := by rw [wrap_ok0 (by omega) (by omega)]; omega
  rw [pendulumref03_Named.l0, if_pos (by omega), if_pos (by omega), hw]
  obtain ⟨c, hc⟩ : ∃ c, bt a (i : Int) = c := ⟨_, rfl⟩
  rw [hc]
  unfold okc
  by_cases h1 : c ≥ 97
  · by_cases h2 : c ≤ 122
    · simp [h1, h2]
    · have h3 : ¬ c ≤ 57 := by omega
      have h4 : ¬ c = 95 := by omega
      simp [h1, h2, h3, h4]
  · by_cases h2 : c ≥ 48
    · by_cases h3 : c ≤ 57
      · simp [h1, h2, h3]
      · by_cases h4 : c = 95
        · subst h4; simp
        · simp [h1, h2, h3, h4]
    · have h4 : ¬ c = 95 := by omega
      simp [h1, h2, h4]
theorem named_loop (a : ByteArray) (hs : a.size ≤ 12) : ∀ (n i k : Nat), i + n = a.size → n < k → pendulumref03_Named.l0 k a (i : Int) = some ((a.data.toList.drop i).all (nOthers.contains ·))
  | 0, i, k, h, hk => by
    obtain ⟨k, rfl⟩ : ∃ j, k = j + 1 := ⟨k - 1, by omega⟩
    rw [pendulumref03_Named.l0, if_neg (by omega), List.drop_of_length_le (by simp; omega)]
    rfl
  | n + 1, i, k, h, hk => by
    obtain ⟨k, rfl⟩ : ∃ j, k = j + 1 := ⟨k - 1, by omega⟩
    obtain ⟨b, hb, hbt⟩ := bt_cell a i (by omega)
    rw [named_step k a i (by omega) hs, hbt, hb, List.all_cons, okc_u, named_loop a hs n (i + 1) k (by omega) (by omega)]
    cases okc (b.toNat : Int) <;> simp
theorem ref_named (a : ByteArray) : ∀ k, 20 ≤ k → pendulumref03_Named.f k a = some (named a) := by
  intro k hk
  obtain ⟨k, rfl⟩ : ∃ j, k = j + 1 := ⟨k - 1, by omega⟩
  unfold pendulumref03_Named.f named
  by_cases h1 : (a.size : Int) < 1
  · rw [if_pos h1, decide_eq_false (show ¬ 1 ≤ a.size by omega)]
    rfl
  · rw [if_neg h1, decide_eq_true (show 1 ≤ a.size by omega)]
    by_cases h2 : (a.size : Int) > 12
    · rw [if_pos h2, decide_eq_false (show ¬ a.size ≤ 12 by omega)]
      rfl
    · rw [if_neg h2, decide_eq_true (show a.size ≤ 12 by omega), if_pos (by omega)]
      obtain ⟨b, hb, hbt⟩ := bt_cell a 0 (by omega)
      rw [List.drop_zero] at hb
      have hbt0 : bt a 0 = (b.toNat : Int) := hbt
      have hloop := named_loop a (by omega) (a.size - 1) 1 k (by omega) (by omega)
      have e1 : ((1 : Nat) : Int) = 1 := rfl
      rw [e1] at hloop
      rw [hbt0, hb, List.take_succ_cons, List.take_zero, List.all_cons, List.all_nil, let_u, List.all_cons, okc_u]
      simp only [Nat.zero_add] at hb ⊢
      by_cases h3 : (b.toNat : Int) < 97
      · rw [if_pos h3, decide_eq_false (show ¬ 97 ≤ (b.toNat : Int) by omega)]
        rfl
      · rw [if_neg h3, decide_eq_true (show 97 ≤ (b.toNat : Int) by omega)]
        by_cases h4 : (b.toNat : Int) > 122
        · rw [decide_eq_true h4, decide_eq_false (show ¬ (b.toNat : Int) ≤ 122 by omega)]
          rfl
        · rw [decide_eq_false h4, decide_eq_true (show (b.toNat : Int) ≤ 122 by omega)]
          rw [pendulumref03_Named.j0, if_neg Bool.false_ne_true, hloop]
          have : okc (b.toNat : Int) = true := by unfold okc; simp; omega
          rw [this]
          simp
theorem named_snoc (a : ByteArray) (h : named a = true) : named (a ++ ⟨#[97]⟩) = decide ((a.size : Int) < 12) := by
  unfold named at h ⊢
  simp only [Bool.and_eq_true, decide_eq_true_eq] at h
  obtain ⟨⟨⟨h1, h2⟩, h3⟩, h4⟩ := h
  have hd : (a ++ (⟨#[97]⟩ : ByteArray)).data.toList = a.data.toList ++ [97] := by simp [ByteArray.data_append]
  have hz : (a ++ (⟨#[97]⟩ : ByteArray)).size = a.size + 1 := by rw [ByteArray.size_append]; rfl
  rw [hd, hz, List.take_append_of_le_length (by simpa using h1), h3, List.all_append, h4]
  have : nOthers.contains 97 = true := by decide
  rw [List.all_cons, List.all_nil, this, decide_eq_true (show 1 ≤ a.size + 1 by omega)]
  simp only [Bool.true_and, Bool.and_true]
  rw [decide_eq_decide]
  omega
end Go.Proofs.YtphppahjkcnjlaaDoor.Q
