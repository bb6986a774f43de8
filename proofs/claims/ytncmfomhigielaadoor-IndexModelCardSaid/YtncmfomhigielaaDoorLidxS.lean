-- What the laws of the index ask of the reference: few, Same, Find (no program in sight); a row of strings that is read.
-- NEEDS pendulum/pendulumref03.Find pendulum/pendulumref03.Same pendulum/pendulumlaw03.few pendulum/pendulumref03.Named
-- PLAIN
import Derived.Test.YtncmfomhigielaaDoorQ0
import Derived.Test.YtncmfomhigielaaDoorQ4
import Derived.Test.YtncmfomhigielaaDoorQ5
import Derived.Test.YtncmfomhigielaaDoorLidxM
import Derived.Test.YtncmfomhigielaaDoorLidxN
import Derived.Test.YtncmfomhigielaaDoorLidxN
import Derived.SliceStrings
namespace Go.Proofs.YtncmfomhigielaaDoor.Q
open Go.RowKit Go.Proofs.YtncmfomhigielaaDoorW.PrintWords Go.Proofs.YtncmfomhigielaaDoorW.PrintLast Go.Proofs.YtncmfomhigielaaDoorW.PrintMore
attribute [local go_sem] max2_int min2_int max_two min_two max_three min_three max_four min_four   -- for this text's walks alone
set_option linter.unusedVariables false
set_option linter.unusedSimpArgs false

theorem few_loop (l : List ByteArray) : ∀ (n i k : Nat), i + n = 400 → 2 * n + 4 ≤ k → ∃ r, pendulumlaw03_few.l0 k l (i : Int) = some r ∧ (r = true → l.length ≤ 300)
  | n, i, k, h, hk => by
    obtain ⟨k, rfl⟩ : ∃ j, k = j + 2 := ⟨k - 2, by omega⟩
    rw [pendulumlaw03_few.l0]
    by_cases h1 : (i : Int) < (l.length : Int)
    · rw [if_pos h1, pendulumlaw03_few.j1]
      by_cases h2 : (i : Int) < 400
      · rw [decide_eq_true h2, if_pos rfl, if_pos (by omega), if_pos h1]
        by_cases h3 : ((rdOf ByteArray.empty l (i : Int)).size : Int) > 60
        · exact ⟨false, by rw [if_pos h3], by simp⟩
        · rw [if_neg h3, show wrap64 ((i : Int) + 1) = ((i + 1 : Nat) : Int) by rw [wrap_ok0 (by omega) (by omega)]; omega]
          match n, h with
          | 0, h => omega
          | n + 1, h => exact few_loop l n (i + 1) k (by omega) (by omega)
      · rw [decide_eq_false h2, if_neg Bool.false_ne_true]
        exact ⟨_, rfl, fun h => by have := of_decide_eq_true h; omega⟩
    · rw [if_neg h1, pendulumlaw03_few.j1, if_neg Bool.false_ne_true]
      exact ⟨_, rfl, fun h => by have := of_decide_eq_true h; omega⟩
theorem few_ask (l : List ByteArray) : ∃ k r, pendulumlaw03_few.f k l = some r ∧ (r = true → l.length ≤ 300) := by
  obtain ⟨r, h1, h2⟩ := few_loop l 400 0 1000 rfl (by omega)
  exact ⟨1000, r, h1, h2⟩
theorem same_loop (l : List ByteArray) (hl : l.length ≤ 1000000) : ∀ (n i k : Nat), i + n = l.length → n < k → pendulumref03_Same.l0 k l l (i : Int) = some true
  | 0, i, k, h, hk => by
    obtain ⟨k, rfl⟩ : ∃ j, k = j + 1 := ⟨k - 1, by omega⟩
    rw [pendulumref03_Same.l0, if_neg (by omega)]
  | n + 1, i, k, h, hk => by
    obtain ⟨k, rfl⟩ : ∃ j, k = j + 1 := ⟨k - 1, by omega⟩
    rw [pendulumref03_Same.l0, if_pos (by omega), if_pos (by omega), if_pos (by omega), if_pos rfl, show wrap64 ((i : Int) + 1) = ((i + 1 : Nat) : Int) by rw [wrap_ok0 (by omega) (by omega)]; omega]
    exact same_loop l hl n (i + 1) k (by omega) (by omega)
theorem same_ask (l : List ByteArray) (hl : l.length ≤ 1000000) : ∃ k, pendulumref03_Same.f k l l = some true := by
  refine ⟨l.length + 1, ?_⟩
  unfold pendulumref03_Same.f
  rw [if_pos rfl]
  exact same_loop l hl l.length 0 _ (by omega) (by omega)
theorem toList_eq {a b : ByteArray} : a.toList = b.toList ↔ a = b := by
  constructor
  · intro h
    rw [Lib.toList_data, Lib.toList_data] at h
    cases a with | mk x => cases b with | mk y =>
    simp only at h
    rw [Array.toList_inj.1 h]
  · rintro rfl; rfl
theorem find_loop (l : List ByteArray) (x : ByteArray) (hl : l.length ≤ 1000000) : ∀ (n i k : Nat), i + n = l.length → n < k → (∀ j, j < i → l[j]? ≠ some x) →
    ∃ r : Int, pendulumref03_Find.l0 k l x (i : Int) = some r ∧ (x ∈ l → ∃ j : Nat, r = j ∧ l[j]? = some x) ∧ (x ∉ l → r = -1)
  | 0, i, k, h, hk, hno => by
    obtain ⟨k, rfl⟩ : ∃ j, k = j + 1 := ⟨k - 1, by omega⟩
    rw [pendulumref03_Find.l0, if_neg (by omega)]
    refine ⟨_, rfl, fun hm => ?_, fun _ => rfl⟩
    obtain ⟨j, hj⟩ := List.getElem?_of_mem hm
    exact absurd hj (hno j (by have := (List.getElem?_eq_some_iff.1 hj).1; omega))
  | n + 1, i, k, h, hk, hno => by
    obtain ⟨k, rfl⟩ : ∃ j, k = j + 1 := ⟨k - 1, by omega⟩
    have hg : l[i]? = some (rdOf ByteArray.empty l (i : Int)) := by simp [rdOf, List.getD_eq_getElem?_getD, List.getElem?_eq_getElem (show i < l.length by omega)]
    rw [pendulumref03_Find.l0, if_pos (by omega), if_pos (by omega)]
    by_cases hx : (rdOf ByteArray.empty l (i : Int)).toList = x.toList
    · rw [if_pos hx]
      rw [toList_eq.1 hx] at hg
      exact ⟨_, rfl, fun _ => ⟨i, rfl, hg⟩, fun hn => absurd (List.mem_of_getElem? hg) hn⟩
    · rw [if_neg hx, show wrap64 ((i : Int) + 1) = ((i + 1 : Nat) : Int) by rw [wrap_ok0 (by omega) (by omega)]; omega]
      refine find_loop l x hl n (i + 1) k (by omega) (by omega) (fun j hj => ?_)
      by_cases e : j = i
      · rw [e, hg]
        intro he
        exact hx (by rw [Option.some.inj he])
      · exact hno j (by omega)
theorem find_ref (l : List ByteArray) (x : ByteArray) (hl : l.length ≤ 1000000) : ∃ (k : Nat) (r : Int), pendulumref03_Find.f k l x = some r ∧ (hasN l x = true → ∃ j : Nat, r = j ∧ l[j]? = some x) ∧ (hasN l x = false → r = -1) := by
  obtain ⟨r, h1, h2, h3⟩ := find_loop l x hl l.length 0 (l.length + 1) (by omega) (by omega) (fun j hj => absurd hj (Nat.not_lt_zero _))
  refine ⟨l.length + 1, r, h1, fun h => h2 ((hasN_iff l x).1 h), fun h => h3 (fun hm => ?_)⟩
  rw [(hasN_iff l x).2 hm] at h
  exact absurd h (by decide)
open Go.ChangeShapes Go.WideShapes in
/-- A row's slice of strings, read. -/
theorem strs_row {H : Type} {enc : TypeId × Value → H} {P : Program} {W : World} {base : Nat} {spare : Nat → Bool} {held : Bool} {t e : TypeId} {a : Option Addr} {len cap : Nat} {d : DataW H} {ps : List MemPlace} (ht : P.underlying t = some (.slice e)) (he : P.underlying e = some .string) (hc : P.cellsOf e = 1)
    (h : DataW.Trod enc P W base spare held t (.slice a len cap) d ps) : ∃ l : List ByteArray, len = l.length ∧ Kd.C Kd.string W a l.length l ∧ l.length ≤ cap := by
  obtain ⟨fuel, hf⟩ := h
  rcases open_strings ht he hc hf with ⟨hcs, _⟩ | ⟨x, l, c, ss, hcs, _, hl, hm, hz, _, hcell, _⟩
  · simp [Value.cells] at hcs
    obtain ⟨rfl, rfl, rfl⟩ := hcs
    exact ⟨[], rfl, Kd.C_nil _ _, Nat.le_refl _⟩
  · simp [Value.cells] at hcs
    obtain ⟨rfl, rfl, rfl⟩ := hcs
    have hlz : len ≤ ss.length := by rw [hz]; split <;> omega
    have hlen : (ss.take len).length = len := by rw [List.length_take]; omega
    have hml : maxLen = 9223372036854775807 := rfl
    refine ⟨ss.take len, hlen.symm, ⟨rfl, by omega, fun _ => ⟨x, rfl, fun j p hj => ⟨[.string p], rfl, rfl, fun i u hu => ?_⟩⟩⟩, by omega⟩
    obtain ⟨rfl, rfl⟩ : i = 0 ∧ u = .string p := by
      cases i with
      | zero => exact ⟨rfl, by simpa using hu.symm⟩
      | succ i => simp at hu
    have hjl : j < len := by have := (List.getElem?_eq_some_iff.1 hj).1; omega
    rw [List.getElem?_take, if_pos hjl] at hj
    have := hcell j (by omega)
    rw [List.getD_eq_getElem?_getD, hj, Option.getD_some] at this
    simpa [Kd.string, Kd.scalar] using this
end Go.Proofs.YtncmfomhigielaaDoor.Q
