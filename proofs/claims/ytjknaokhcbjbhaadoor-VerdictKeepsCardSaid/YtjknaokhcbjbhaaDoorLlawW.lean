-- VerdictKeeps: the plain law, told of its walk.
-- NEEDS pendulum/pendulumlaw20.VerdictKeeps
-- PLAIN
import Derived.Test.YtjknaokhcbjbhaaDoorM0
import Derived.Test.YtjknaokhcbjbhaaDoorQ29
import Derived.Test.YtjknaokhcbjbhaaDoorQ30
import Derived.Test.YtjknaokhcbjbhaaDoorQ31
import Derived.Test.YtjknaokhcbjbhaaDoorHlawK
import Derived.Test.YtjknaokhcbjbhaaDoorM22
import Derived.Test.YtjknaokhcbjbhaaDoorLfixW
import Derived.Test.YtjknaokhcbjbhaaDoorLsetS
namespace Go.Proofs.YtjknaokhcbjbhaaDoor.Q
open Go.RowKit Go.Proofs.YtjknaokhcbjbhaaDoorW.PrintWords Go.Proofs.YtjknaokhcbjbhaaDoorW.PrintLast Go.Proofs.YtjknaokhcbjbhaaDoorW.PrintMore
attribute [local go_sem] max2_int min2_int max_two min_two max_three min_three max_four min_four   -- for this text's walks alone
set_option linter.unusedVariables false
set_option linter.unusedSimpArgs false

theorem gap_eval {a : Int} (h0 : 0 ≤ a) (h1 : a ≤ 4294967295) : pendulumlaw20_gap.f a = some (gapN a) := by
 unfold pendulumlaw20_gap.f gapN
 rw [w64_ok (x := a) (by omega) (by omega), Int.tmod_eq_emod_of_nonneg h0, w64_ok (by omega) (by omega)]
theorem r18_loop (x y : List Int) (he : x.length = y.length) (hl : x.length ≤ 1000000) : ∀ (n i k : Nat), i + n = x.length → n < k → pendulumref18_Same.l0 k x y (i : Int) = some (x.drop i == y.drop i)
 | 0, i, k, h, hk => by
  obtain ⟨k, rfl⟩ : ∃ j, k = j + 1 := ⟨k - 1, by omega⟩
  rw [pendulumref18_Same.l0, if_neg (by omega), List.drop_of_length_le (by omega), List.drop_of_length_le (by omega)]
  rfl
 | n + 1, i, k, h, hk => by
  obtain ⟨k, rfl⟩ : ∃ j, k = j + 1 := ⟨k - 1, by omega⟩
  have hx : i < x.length := by omega
  have hy : i < y.length := by omega
  have gx : rd x (i : Int) = x[i] := by simp [rd, List.getD_eq_getElem?_getD, List.getElem?_eq_getElem hx]
  have gy : rd y (i : Int) = y[i] := by simp [rd, List.getD_eq_getElem?_getD, List.getElem?_eq_getElem hy]
  rw [pendulumref18_Same.l0, if_pos (by omega), if_pos (by omega), if_pos (by omega), gx, gy, show x.drop i = x[i] :: x.drop (i + 1) from List.drop_eq_getElem_cons hx, show y.drop i = y[i] :: y.drop (i + 1) from List.drop_eq_getElem_cons hy]
  by_cases hxy : x[i] = y[i]
  ·rw [if_pos hxy, show wrap64 ((i : Int) + 1) = ((i + 1 : Nat) : Int) by rw [w64_ok (by omega) (by omega)]; omega, r18_loop x y he hl n (i + 1) k (by omega) (by omega), hxy, List.cons_beq_cons, beq_self_eq_true, Bool.true_and]
  ·rw [if_neg hxy, List.cons_beq_cons, beq_eq_false_iff_ne.2 hxy, Bool.false_and]
theorem r18_self (x : List Int) (hl : x.length ≤ 1000000) (k : Nat) (hk : x.length < k) : pendulumref18_Same.f k x x = some true := by
 unfold pendulumref18_Same.f
 have h := r18_loop x x rfl hl x.length 0 k (by omega) hk
 rw [List.drop_zero] at h
 rw [if_pos rfl, show (0 : Int) = ((0 : Nat) : Int) from rfl, h, beq_self_eq_true]
theorem keeps20_l0 {b : Int} {ts : List TK} {a : Int} (h : RightS b ts) (h0 : 0 ≤ a) (h1 : a ≤ 4294967295) (hB : ∀ t ∈ ts, 2 * (t.f2 + 2).toNat < 6100) : ∀ (n i k : Nat) (ok : Bool) (late : Int) (o : List Int), i + n = o.length → o.length ≤ 100 → n + 6200 < k →
  pendulumlaw20_VerdictKeeps.l0 k a (jdg b ts (gapN a)).2.2 (i : Int) b ts b ts ok late o = some true
 | 0, i, k, ok, late, o, hi, hl, hk => by
  obtain ⟨k, rfl⟩ : ∃ j, k = j + 1 := ⟨k - 1, by omega⟩
  have hg := gapN_range h0
  have hn := h.n1
  rw [pendulumlaw20_VerdictKeeps.l0, if_neg (by omega), gap_eval h0 h1]
  simp only [Option.bind_some]
  rw [judge_right h hg.1 hg.2 6100 hB k (by omega)]
  simp only [Option.bind_some]
  rw [same_eq b ts b ts (by omega) (by omega) k (by omega), sameB_self]
  simp only [Option.bind_some, if_true]
  rw [r18_self _ (by rw [jdg_len]; omega) k (by rw [jdg_len]; omega)]
  rfl
 | n + 1, i, k, ok, late, o, hi, hl, hk => by
  obtain ⟨k, rfl⟩ : ∃ j, k = j + 1 := ⟨k - 1, by omega⟩
  rw [pendulumlaw20_VerdictKeeps.l0, if_pos (by omega), if_pos (by omega), show wrap64 ((i : Int) + 1) = ((i + 1 : Nat) : Int) by rw [w64_ok (by omega) (by omega)]; omega]
  exact keeps20_l0 h h0 h1 hB n (i + 1) k ok late _ (by rw [List.length_set]; omega) (by rw [List.length_set]; omega) (by omega)
theorem VerdictKeeps_pure (b : Int) (ts : List TK) (a : Int) (h0 : 0 ≤ a) (h1 : a ≤ 4294967295) : pendulumlaw20_VerdictKeeps.f (20000 + 3) b ts a = some true := by
 obtain ⟨k, hk, hkk⟩ : ∃ k, 20000 = k ∧ 20000 ≤ k := ⟨_, rfl, Nat.le_refl _⟩
 rw [hk]
 unfold pendulumlaw20_VerdictKeeps.f
 unfold pendulumlaw20_awake.f
 simp only [Option.bind_some, if_true]
 rw [small_eq b ts _ (by omega)]
 simp only [Option.bind_some]
 cases hs : smallB ts with
 | false => rw [if_neg (by decide), pendulumlaw20_VerdictKeeps.j0, if_pos rfl]; rfl
 | true =>
  rw [if_pos rfl, right_eq]
  simp only [Option.bind_some]
  by_cases hr : RightS b ts
  ·have hB := small_B hs
   have hg := gapN_range h0
   have hn := hr.n1
   rw [(rightS_iff b ts).2 hr, show (!((0 : Int) == 0)) = false from rfl, pendulumlaw20_VerdictKeeps.j0, if_neg (by decide)]
   simp only [Option.bind_some, List.nil_append, List.length_nil, Nat.zero_add]
   rw [if_pos (by omega), gap_eval h0 h1]
   simp only [Option.bind_some]
   rw [judge_right hr hg.1 hg.2 6100 hB.1 _ (by omega)]
   simp only [Option.bind_some]
   have hjl := jdg_len b ts (gapN a)
   rw [if_pos (by omega)]
   exact keeps20_l0 hr h0 h1 hB.1 ts.length 0 _ _ _ _ (by omega) (by omega) (by omega)
  ·have hn : ((whyS b ts).1 == 0) = false := beq_eq_false_iff_ne.2 (fun e => hr ((rightS_iff b ts).1 e))
   rw [hn, show (!false) = true from rfl, pendulumlaw20_VerdictKeeps.j0, if_pos rfl]; rfl
theorem VerdictKeeps_law (b : Int) (A : Option Addr) (c : Nat) (ts : List TK) (a : Int) (W : World) (hC : Kd.C k42 W A ts.length ts) (hc : ts.length ≤ c) (_ : ∀ t ∈ ts, okTask t) (_ : (Lit.int .i64 b).wf = true) (ha : (Lit.int .u32 a).wf = true) :
  Calls Tryd.prog 5 #[.agg #[.int .i64 b, .slice A ts.length c], .int .u32 a] W fun e w' => e = .returned (.bool true) ∧ Below W.heap.size W w' :=
 pendulumlaw20_VerdictKeeps.calls (20000 + 3) b A c ts a true W hC hc (VerdictKeeps_pure b ts a (u32_range ha).1 (u32_range ha).2) rfl
end Go.Proofs.YtjknaokhcbjbhaaDoor.Q
