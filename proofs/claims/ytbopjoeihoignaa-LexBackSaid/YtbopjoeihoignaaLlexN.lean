-- Digits that make a number, as the plain function of chapter 4 reads them.
import Derived.Test.YtbopjoeihoignaaQ0
import Derived.Test.YtbopjoeihoignaaLlex
import Derived.Test.YtbopjoeihoignaaLlexR
namespace Go.Proofs.Ytbopjoeihoignaa.Q
open Go.RowKit Go.Proofs.YtbopjoeihoignaaW.PrintWords Go.Proofs.YtbopjoeihoignaaW.PrintLast Go.Proofs.YtbopjoeihoignaaW.PrintMore
attribute [local go_sem] max2_int min2_int max_two min_two max_three min_three max_four min_four   -- for this text's walks alone
set_option linter.unusedVariables false
set_option linter.unusedSimpArgs false

def Dig (t : List Int) (v : Int) : Prop := (∀ c ∈ t, 48 ≤ c ∧ c ≤ 57) ∧ 0 ≤ v ∧ ∀ n : Int, 0 ≤ n → n * 10 ^ t.length + v ≤ 1099511627776 → valGo n t = some (n * 10 ^ t.length + v)
theorem dig_nil : Dig [] 0 := ⟨fun c h => by simp at h, by omega, fun n _ _ => by simp [valGo]⟩
theorem dig_cons {t : List Int} {v d : Int} (h : Dig t v) (h0 : 0 ≤ d) (h1 : d ≤ 9) : Dig ((48 + d) :: t) (d * 10 ^ t.length + v) := by
  have hE : (1 : Int) ≤ 10 ^ t.length := by
    have : ∀ n : Nat, (1 : Int) ≤ 10 ^ n := by
      intro n
      induction n with
      | zero => simp
      | succ n ih => rw [Int.pow_succ]; omega
    exact this _
  obtain ⟨E, hEe⟩ : ∃ E : Int, 10 ^ t.length = E := ⟨_, rfl⟩
  refine ⟨fun c hc => ?_, ?_, fun n hn hle => ?_⟩
  · rcases List.mem_cons.1 hc with rfl | hc
    · omega
    · exact h.1 c hc
  · have := h.2.1
    have := Int.mul_nonneg h0 (by omega : (0 : Int) ≤ 10 ^ t.length)
    omega
  · rw [List.length_cons, Int.pow_succ] at hle ⊢
    have e : n * (10 ^ t.length * 10) + (d * 10 ^ t.length + v) = (10 * n + d) * 10 ^ t.length + v := by
      rw [hEe, Int.add_mul, ← Int.mul_assoc, Int.mul_comm (n * E) 10, ← Int.mul_assoc]; omega
    rw [e] at hle ⊢
    have h2 : 10 * n + d ≤ (10 * n + d) * 10 ^ t.length := by
      have := Int.mul_le_mul_of_nonneg_left hE (by omega : 0 ≤ 10 * n + d)
      omega
    have h3 := h.2.1
    have e2 : 10 * n + (48 + d - 48) = 10 * n + d := by omega
    simp only [valGo]
    rw [e2, if_neg (by omega)]
    exact h.2.2 _ (by omega) hle
theorem strOfNums_append (a b : List Int) : strOfNums a ++ strOfNums b = strOfNums (a ++ b) := by
  apply ByteArray.ext
  simp [strOfNums]
theorem bytesOf_strOfNums {t : List Int} (h : ∀ c ∈ t, 0 ≤ c ∧ c ≤ 255) : bytesOf (strOfNums t) = t := by
  unfold bytesOf strOfNums
  simp only [List.toList_toArray, List.map_map]
  have : ∀ s : List Int, (∀ c ∈ s, 0 ≤ c ∧ c ≤ 255) → s.map ((fun b : UInt8 => (b.toNat : Int)) ∘ fun n : Int => UInt8.ofNat n.toNat) = s := by
    intro s hs
    induction s with
    | nil => rfl
    | cons c s ih =>
      rw [List.map_cons, ih fun x hx => hs x (List.mem_cons_of_mem _ hx)]
      congr 1
      have := hs c List.mem_cons_self
      simp
      omega
  exact this t h
theorem dig_ok {t : List Int} {v : Int} (h : Dig t v) : okBytes t = true := by
  refine List.all_eq_true.2 fun x hx => ?_
  have := h.1 x hx
  simp
  omega
theorem dig_toks {t : List Int} {v : Int} (h : Dig t v) (hv : v ≤ 1099511627776) (hne : t ≠ []) : lexToks t = ([⟨2, strOfNums t, v, 1, 1⟩, ⟨4, (⟨#[]⟩ : ByteArray), 0, 1, 1 + (t.length : Int)⟩], 0, 0, 0) := by
  cases t with
  | nil => exact absurd rfl hne
  | cons c s =>
    have hall : (c :: s).takeWhile dgB = c :: s := by
      have : ∀ l : List Int, (∀ c ∈ l, 48 ≤ c ∧ c ≤ 57) → l.takeWhile dgB = l := by
        intro l hl
        induction l with
        | nil => rfl
        | cons x l ih =>
          rw [List.takeWhile_cons, if_pos, ih fun y hy => hl y (List.mem_cons_of_mem _ hy)]
          have := hl x List.mem_cons_self
          unfold dgB; simp; omega
      exact this _ h.1
    have hc := h.1 c List.mem_cons_self
    have h1 : ¬ smB c = true := by unfold smB; simp; omega
    have h2 : dgB c = true := by unfold dgB; simp; omega
    have hval : valGo 0 ((c :: s).takeWhile dgB) = some v := by
      have := h.2.2 0 (by omega) (by omega)
      rw [hall, this]; congr 1; omega
    have hp := piece_number h1 h2 hval
    rw [hall] at hp
    unfold lexToks
    rw [toks_go (by simp) (by rw [hp]), hp]
    simp only [tokL]
    rw [if_neg Bool.false_ne_true, if_neg Bool.false_ne_true, List.drop_length, List.length_cons, toks_end]
    rfl
end Go.Proofs.Ytbopjoeihoignaa.Q
