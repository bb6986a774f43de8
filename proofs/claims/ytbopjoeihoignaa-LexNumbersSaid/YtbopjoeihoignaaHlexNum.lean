-- LexNumbers, walked by hand.
-- HAND pendulum/pendulumlaw04.LexNumbers rounds=0 making=1
-- NEEDS pendulum/pendulumlaw04.awake pendulum/lex.Tokens
import Derived.Test.YtbopjoeihoignaaQ0
import Derived.Test.YtbopjoeihoignaaQ0
import Derived.Test.YtbopjoeihoignaaHlex
import Derived.Test.YtbopjoeihoignaaHlexD
import Derived.Test.YtbopjoeihoignaaHlexW
import Derived.Test.YtbopjoeihoignaaLlexN
import Derived.Test.YtbopjoeihoignaaLlexR
import Derived.OpenShut
import Derived.WalkSpells
import Derived.Lib.SlBytesConst
namespace Go.Proofs.Ytbopjoeihoignaa.Q
open Go.RowKit Go.Proofs.YtbopjoeihoignaaW.PrintWords Go.Proofs.YtbopjoeihoignaaW.PrintLast Go.Proofs.YtbopjoeihoignaaW.PrintMore
attribute [local go_sem] max2_int min2_int max_two min_two max_three min_three max_four min_four   -- for this text's walks alone
set_option linter.unusedVariables false
set_option linter.unusedSimpArgs false

def pendulumlaw04_LexNumbers.f (a0 a1 : Int) : Option Bool := some true
def pendulumlaw04_LexNumbers.Pure : Prop := True
theorem over_one : lex_Tokens.f [32, 32, 49, 48, 57, 57, 53, 49, 49, 54, 50, 55, 55, 55, 55] = some ([], 2, 1, 3) := by rfl
set_option maxHeartbeats 2000000 in
set_option maxRecDepth 100000 in
theorem pendulumlaw04_LexNumbers.walk (P : pendulumlaw04_LexNumbers.Pure) (a0 a1 : Int) (w : World) (w0 : (Lit.int .u64 a0).wf = true) (w1 : (Lit.int .u8 a1).wf = true) :
    Calls Try.prog 5 #[.int .u64 a0, .int .u8 a1] w fun e w' => e = .returned (.bool true) ∧ Below w.heap.size w w' := by
  obtain ⟨b0, b1⟩ := Go.bounds_u8 w1
  have HA0 := Aside0.mk (Go.bounds_u64 w0)
  clear w0 w1
  obtain ⟨c0, c1⟩ : 0 ≤ a0 ∧ 0 ≤ a0 % 1099511627777 := ⟨HA0.out.1, by omega⟩
  have c2 : a0 % 1099511627777 ≤ 1099511627776 := by omega
  go_enter Try.func5, Try.ntmps5
  go_wp2_with (go_at_call 9; (with_reducible refine (pendulumlaw04_awake.calls true _ rfl).mono ?_); rintro e wA ⟨rfl, HBA0⟩; have HBA := Aside0.mk HBA0; clear HBA0)
  obtain ⟨kk, hkk⟩ : ∃ kk, a0 % 1099511627777 = kk := ⟨_, rfl⟩
  rw [hkk] at c1 c2
  rw [hkk]
  clear hkk HA0
  have hcv : ∀ (W : World) (d : Int), (convert 22 9 (.slice (some ⟨W.heap.size, 0, none⟩) 1 1)).run Try.prog (W.alloc (.cells #[.int .u8 d] 5)) = .ok (.string (strOfNums [d])) (W.alloc (.cells #[.int .u8 d] 5)) := fun W d =>
    Kd.C_string (P := Try.prog) Try.underlying22 Try.underlying5 Try.underlying9 (C_lit_u8 W [d] (by simp) #[.int .u8 d] (0, 0) rfl)
  go_loopg [6, 7] 14 (fun kq v6 v7 wr => ∃ (S : ByteArray) (x : Int), v6 = .string S ∧ v7 = .int .i64 x ∧ 0 ≤ x ∧ x ≤ 1099511627776 ∧ Aside0 (∃ (t : List Int) (v : Int), S = strOfNums t ∧ Dig t v ∧ kk = x * 10 ^ t.length + v ∧ x < 10 ^ kq ∧ t.length + kq = 14) ∧ Aside0 (Below w.heap.size w wr))
  case atStart => exact ⟨_, _, rfl, rfl, c1, c2, ⟨[], 0, rfl, dig_nil, by simp, by omega, rfl⟩, HBA⟩
  case round =>
    clear HBA
    obtain ⟨S, x, rfl, rfl, x0, x1, HT, HB⟩ := hrel
    have hSz : S.size ≤ 14 := by obtain ⟨t, v, h1, _, _, _, h5⟩ := HT.out; rw [h1, strOfNums_size]; omega
    by_cases hx : 0 < x
    · have hd : decide (0 < x) = true := decide_eq_true hx
      have hcat : (strOfNums [48 + x % 10]).size + S.size ≤ 1000 := by rw [strOfNums_size]; simp; omega
      have hg : ∃ g, gk = g + 1 := by
        obtain ⟨t, v, _, _, _, h4, _⟩ := HT.out
        cases gk with
        | zero => simp at h4; omega
        | succ g => exact ⟨g, rfl⟩
      obtain ⟨g, rfl⟩ := hg
      go_wp2
      go_roundg g
      case measure => omega
      case rel =>
        refine ⟨_, x / 10, rfl, rfl, by omega, by omega, ⟨?_⟩, ⟨below_alloc HB.out _⟩⟩
        obtain ⟨t, v, h1, h2, h3, h4, h5⟩ := HT.out
        have e : x = 10 * (x / 10) + x % 10 := by omega
        refine ⟨(48 + x % 10) :: t, x % 10 * 10 ^ t.length + v, ?_, dig_cons h2 (by omega) (by omega), ?_, ?_, ?_⟩
        · rw [h1, strOfNums_append]; rfl
        · rw [h3, List.length_cons, Int.pow_succ]
          obtain ⟨E, hE⟩ : ∃ E : Int, 10 ^ t.length = E := ⟨_, rfl⟩
          rw [hE, Int.mul_comm E 10, ← Int.mul_assoc, Int.mul_comm (x / 10) 10, ← Int.add_assoc, ← Int.add_mul]
          rw [← e]
        · rw [Int.pow_succ] at h4
          omega
        · rw [List.length_cons]; omega
    · have hd : decide (0 < x) = false := decide_eq_false hx
      go_wp2
      have HT2 : Aside0 (∃ t, S = strOfNums t ∧ Dig t kk ∧ t.length ≤ 14) := ⟨by
        obtain ⟨t, v, h1, h2, h3, h4, h5⟩ := HT.out
        have e : x = 0 := by omega
        rw [e, Int.zero_mul, Int.zero_add] at h3
        exact ⟨t, h1, by rw [h3]; exact h2, by omega⟩⟩
      obtain ⟨S0, hS0⟩ : ∃ S0 : ByteArray, S0 = S := ⟨_, rfl⟩
      rw [hS0] at *
      clear HT hS0 S0
      go_loopg [6, 8] (31) (fun kq v6 v8 wr => ∃ (S : ByteArray) (i : Nat), v6 = .string S ∧ v8 = .int .i64 i ∧ (i : Int) ≤ a1 % 30 + 1 ∧ Aside0 (kq + i = 31) ∧ Aside0 (∃ t, S = strOfNums t ∧ Dig t kk ∧ t.length ≤ 14 + i ∧ (0 < i → t ≠ [])) ∧ Aside0 (Below w.heap.size w wr))
      case atStart => exact ⟨S, 0, rfl, rfl, by omega, ⟨rfl⟩, ⟨by obtain ⟨t, h1, h2, h3⟩ := HT2.out; exact ⟨t, h1, h2, by omega, fun h => absurd h (by omega)⟩⟩, HB⟩
      case round =>
        clear HT2 HB hSz
        obtain ⟨S, i, rfl, rfl, i1, HK, HT, HB⟩ := hrel
        have hSz : S.size ≤ 14 + i := by obtain ⟨t, h1, h2, h3, _⟩ := HT.out; rw [h1, strOfNums_size]; omega
        by_cases hi : (i : Int) ≤ a1 % 30
        · have hd2 : decide ((i : Int) ≤ a1 % 30) = true := decide_eq_true hi
          have hcat : (⟨#[48]⟩ : ByteArray).size + S.size ≤ 1000 := by have : (⟨#[48]⟩ : ByteArray).size = 1 := rfl; omega
          go_wp2
          go_roundg (30 - i)
          case measure => have := HK.out; omega
          case rel =>
            refine ⟨_, i + 1, rfl, by go_num, by omega, ⟨by omega⟩, ⟨?_⟩, HB⟩
            obtain ⟨t, h1, h2, h3, h4⟩ := HT.out
            refine ⟨48 :: t, ?_, ?_, ?_, fun _ => by simp⟩
            · rw [h1, show (⟨#[48]⟩ : ByteArray) = strOfNums [48] from rfl, strOfNums_append]; rfl
            · have := dig_cons h2 (d := 0) (by omega) (by omega)
              simpa using this
            · rw [List.length_cons]; omega
        · have hd2 : decide ((i : Int) ≤ a1 % 30) = false := decide_eq_false hi
          have HT3 : Aside0 (∃ t, S = strOfNums t ∧ Dig t kk ∧ t.length ≤ 60 ∧ t ≠ []) := ⟨by obtain ⟨t, h1, h2, h3, h4⟩ := HT.out; exact ⟨t, h1, h2, by omega, h4 (by omega)⟩⟩
          clear HT
          have hSb : S.size ≤ 9223372036854775807 := by omega
          have HSB := Aside0.mk hSb
          clear hSb
          go_wp2_with ((with_reducible refine gate_ (.convert 9 22 (.tmp 41)) rfl ?_); go_must (refine conv_event rfl rfl rfl HSB.out ?_; intro A cc w2 hC hcc hB2))
          have hF : lex_Tokens.f (bytesOf S) = some ([⟨2, S, kk, 1, 1⟩, ⟨4, (⟨#[]⟩ : ByteArray), 0, 1, 1 + (S.size : Int)⟩], 0, 0, 0) := by
            obtain ⟨t, h1, h2, h3, h4⟩ := HT3.out
            have hb : bytesOf S = t := by rw [h1]; exact bytesOf_strOfNums fun c hc => by have := h2.1 c hc; omega
            rw [hb, lex_some (by omega) (dig_ok h2), dig_toks h2 c2 h4, h1, strOfNums_size]
          have HF := Aside0.mk hF
          have HC := Aside0.mk hC
          have HCC := Aside0.mk hcc
          clear hF hC hcc HT3
          refine (lex_Tokens.calls (some A) cc (bytesOf S) _ _ _ _ _ HC.out HCC.out HF.out).mono ?_
          rintro e w3 ⟨v0, rfl, hR, hB3⟩
          have kc2 := fun o C n c => conv_lit2 w3 o C n c
          go_wp2_with fail
          refine (lex_Tokens.calls _ 15 [32, 32, 49, 48, 57, 57, 53, 49, 49, 54, 50, 55, 55, 55, 55] _ _ _ _ _ (C_lit_u8' _ _ [32, 32, 49, 48, 57, 57, 53, 49, 49, 54, 50, 55, 55, 55, 55] (by decide) _ _ rfl) (by decide) over_one).mono ?_
          rintro e w4 ⟨v1, rfl, hR2, hB4⟩
          obtain ⟨A1, d1, rfl, hd1, hC1⟩ := Kd.R_reads hR
          obtain ⟨A2, d2, rfl, hd2, hC2⟩ := Kd.R_reads hR2
          have hbb : Below w3.heap.size w3 w4 := below_step (below_alloc (below_alloc (Below.refl _ _) _) _) hB4
          have hC3 := Kd.C_alloc (Kd.C_below hC1 hbb) (.cells #[.int .i64 2, .int .i64 1, .int .i64 3] 27)
          obtain ⟨ad, e1, x00, x01, x02, x03, x04⟩ := at_T33 hC3 0 (by simp) (by simp)
          cases e1
          have HB2 := Aside0.mk hB2
          have HB3 := Aside0.mk hB3
          have HB4 := Aside0.mk hbb
          have hbs := blk_alloc (((blk_below (blk_alloc (blk_new w3 (.cells #[.int .i64 0, .int .i64 0, .int .i64 0] 27)) _)) hB4)) (.cells #[.int .i64 2, .int .i64 1, .int .i64 3] 27)
          have s0_ := blk_cell hbs 0
          have s1_ := blk_cell hbs 1
          have s2_ := blk_cell hbs 2
          clear hd1 hd2 hC1 hC2 hC3 hR hR2 hB2 hB3 hB4 hbb hbs
          simp only [rd_T33] at x00 x01 x02 x03 x04
          simp at x00 x01 x02 x03 x04
          rw [addr_add0] at x00 x01 x02 x03 x04
          go_wp2_with fail
          go_ret
          exact ⟨rfl, below_alloc (below_step (below_step (below_step HB.out HB2.out) HB3.out) HB4.out) _⟩
end Go.Proofs.Ytbopjoeihoignaa.Q
