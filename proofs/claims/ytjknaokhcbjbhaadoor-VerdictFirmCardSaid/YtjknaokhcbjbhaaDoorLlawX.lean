-- VerdictFirm: the plain law, told of its walk.
-- NEEDS pendulum/pendulumlaw20.VerdictFirm
-- PLAIN
import Derived.Test.YtjknaokhcbjbhaaDoorM0
import Derived.Test.YtjknaokhcbjbhaaDoorQ29
import Derived.Test.YtjknaokhcbjbhaaDoorQ33
import Derived.Test.YtjknaokhcbjbhaaDoorHlawK
import Derived.Test.YtjknaokhcbjbhaaDoorM22
import Derived.Test.YtjknaokhcbjbhaaDoorLfixU
import Derived.Test.YtjknaokhcbjbhaaDoorLfixW
import Derived.Test.YtjknaokhcbjbhaaDoorLsetS
namespace Go.Proofs.YtjknaokhcbjbhaaDoor.Q
open Go.RowKit Go.Proofs.YtjknaokhcbjbhaaDoorW.PrintWords Go.Proofs.YtjknaokhcbjbhaaDoorW.PrintLast Go.Proofs.YtjknaokhcbjbhaaDoorW.PrintMore
attribute [local go_sem] max2_int min2_int max_two min_two max_three min_three max_four min_four   -- for this text's walks alone
set_option linter.unusedVariables false
set_option linter.unusedSimpArgs false

theorem gap_evalF {a : Int} (h0 : 0 ≤ a) (h1 : a ≤ 4294967295) : pendulumlaw20_gap.f a = some (gapN a) := by
 unfold pendulumlaw20_gap.f gapN
 rw [w64_ok (x := a) (by omega) (by omega), Int.tmod_eq_emod_of_nonneg h0, w64_ok (by omega) (by omega)]
/-- A task whose (m,k) alone is another. -/
def simT (x t : TK) : Prop := x.f0 = t.f0 ∧ likeT x t ∧ 1 ≤ x.f8 ∧ x.f8 ≤ 64 ∧ 1 ≤ x.f7 ∧ x.f7 ≤ x.f8
theorem sim_self {t : TK} (h : RightT t) : simT t t := ⟨rfl, ⟨rfl, rfl, rfl, rfl, rfl, rfl, rfl, rfl⟩, by have := h.firm; omega, by have := h.firm; omega, by have := h.firm; omega, by have := h.firm; omega⟩
theorem sim_right {x t : TK} (h : simT x t) (ht : RightT t) : RightT x := by
 obtain ⟨h0, ⟨l1, l2, l3, l4, l5, l6, l9, l10⟩, f1, f2, f3, f4⟩ := h
 exact ⟨by rw [h0]; exact ht.named, by rw [l1, l2, l3, l6]; exact ht.timed, by rw [l9]; exact ht.modeA, by rw [l9, l5, l3, l4]; exact ht.mode1, by rw [l9, l5, l2, l4]; exact ht.mode2, by omega, by rw [l10]; exact ht.prio⟩
theorem sims_right {b : Int} {ts cs : List TK} (h : RightS b ts) (hlen : cs.length = ts.length) (hs : ∀ i (h1 : i < cs.length) (h2 : i < ts.length), simT cs[i] ts[i]) : RightS b cs := by
 refine RightS.mk' h.b0 h.b1 (by rw [hlen]; exact h.n0) (by rw [hlen]; exact h.n1) ?_ ?_
 ·intro t ht
  obtain ⟨i, hi, rfl⟩ := List.getElem_of_mem ht
  have h2 : i < ts.length := by rw [← hlen]; exact hi
  exact sim_right (hs i hi h2) (h.task (List.getElem_mem h2))
 ·intro i j hi hj hij
  have h2 : i < ts.length := by rw [← hlen]; exact hi
  have h3 : j < ts.length := by rw [← hlen]; exact hj
  have ha := h.apart i j h2 h3 (by omega)
  rw [(hs i hi h2).1, (hs j hj h3).1, (hs i hi h2).2.1.2.2.2.2.2.2.2, (hs j hj h3).2.1.2.2.2.2.2.2.2]
  exact ha
theorem firm_l0 {b : Int} {ts : List TK} {a m c : Int} (h : RightS b ts) (h0 : 0 ≤ a) (h1 : a ≤ 4294967295) (hm0 : 0 ≤ m) (hm1 : m ≤ 255) (hc0 : 0 ≤ c) (hc1 : c ≤ 255) (hB : ∀ t ∈ ts, 2 * (t.f2 + 2).toNat < 6100) : ∀ (n i k : Nat) (cs : List TK), i + n = cs.length → cs.length = ts.length → (∀ i (h1 : i < cs.length) (h2 : i < ts.length), simT cs[i] ts[i]) → n + 6200 < k →
  pendulumlaw20_VerdictFirm.l0 k a m c (i : Int) b ts b cs = some true
 | 0, i, k, cs, hi, hlen, hs, hk => by
  obtain ⟨k, rfl⟩ : ∃ j, k = j + 1 := ⟨k - 1, by omega⟩
  have hg := gapN_range h0
  have hn := h.n1
  have hc := sims_right h hlen hs
  have hB2 : ∀ t ∈ cs, 2 * (t.f2 + 2).toNat < 6100 := by
   intro t ht
   obtain ⟨i, hi, rfl⟩ := List.getElem_of_mem ht
   have h2 : i < ts.length := by rw [← hlen]; exact hi
   rw [(hs i hi h2).2.1.2.1]
   exact hB _ (List.getElem_mem h2)
  have e : jdg b cs (gapN a) = jdg b ts (gapN a) := jdg_like (gapN a) h hc hlen (fun i h1 h2 => (hs i h1 h2).2.1)
  have hjl := jdg_len b ts (gapN a)
  rw [pendulumlaw20_VerdictFirm.l0, if_neg (by omega), gap_evalF h0 h1]
  simp only [Option.bind_some]
  rw [judge_right h hg.1 hg.2 6100 hB k (by omega)]
  simp only [Option.bind_some]
  rw [judge_right hc hg.1 hg.2 6100 hB2 k (by omega), e]
  simp only [Option.bind_some, if_true]
  rw [same_eval _ _ (by omega) k (by omega), (vsame_iff _ _).2 rfl]
  simp only [Option.bind_some, if_true]
  rw [rsame_eval _ _ (by omega) k (by omega), (vsame_iff _ _).2 rfl]
  rfl
 | n + 1, i, k, cs, hi, hlen, hs, hk => by
  obtain ⟨k, rfl⟩ : ∃ j, k = j + 1 := ⟨k - 1, by omega⟩
  have hn := h.n1
  have hic : i < cs.length := by omega
  have hit : i < ts.length := by omega
  have gx : rd_T42 cs (i : Int) = cs[i] := by simp [rd_T42, List.getD_eq_getElem?_getD, List.getElem?_eq_getElem hic]
  have hk0 : (0 : Int) ≤ (c + (i : Int)) % 64 ∧ (c + (i : Int)) % 64 < 64 := by omega
  obtain ⟨q, hq⟩ : ∃ q, 1 + (c + (i : Int)) % 64 = q := ⟨_, rfl⟩
  have e1 : wrap64 (1 + Int.tmod (wrap64 (wrap64 c + (i : Int))) 64) = q := by
   rw [w64_ok (x := c) (by omega) (by omega), w64_ok (x := c + (i : Int)) (by omega) (by omega), Int.tmod_eq_emod_of_nonneg (by omega), w64_ok (by omega) (by omega), hq]
  have hq1 : 1 ≤ q := by omega
  have hq2 : q ≤ 64 := by omega
  have hp1 := Int.emod_nonneg m (show q ≠ 0 by omega)
  have hp2 := Int.emod_lt_of_pos m (show 0 < q by omega)
  obtain ⟨p, hp⟩ : ∃ p, 1 + m % q = p := ⟨_, rfl⟩
  have e2 : wrap64 (1 + Int.tmod (wrap64 m) q) = p := by
   rw [w64_ok (x := m) (by omega) (by omega), Int.tmod_eq_emod_of_nonneg hm0, w64_ok (by omega) (by omega), hp]
  rw [pendulumlaw20_VerdictFirm.l0, if_pos (by omega), if_pos (by omega), gx, e1, show ((i : Int)).toNat = i by omega]
  simp only [Option.bind_some]
  obtain ⟨t1, ht1⟩ : ∃ t1 : TK, (⟨cs[i].f0, cs[i].f1, cs[i].f2, cs[i].f3, cs[i].f4, cs[i].f5, cs[i].f6, cs[i].f7, q, cs[i].f9, cs[i].f10⟩ : TK) = t1 := ⟨_, rfl⟩
  rw [ht1]
  have gy : rd_T42 (cs.set i t1) (i : Int) = t1 := by simp [rd_T42, List.getD_eq_getElem?_getD, hic]
  rw [gy]
  have hf8 : t1.f8 = q := by rw [← ht1]
  rw [hf8, if_neg (by omega), e2, show wrap64 ((i : Int) + 1) = ((i + 1 : Nat) : Int) by rw [w64_ok (by omega) (by omega)]; omega]
  refine firm_l0 h h0 h1 hm0 hm1 hc0 hc1 hB n (i + 1) k _ (by simp; omega) (by simpa using hlen) (fun j j1 j2 => ?_) (by omega)
  simp only [List.set_set, List.getElem_set]
  by_cases hji : i = j
  ·subst hji
   rw [if_pos rfl]
   obtain ⟨s0, ⟨l1, l2, l3, l4, l5, l6, l9, l10⟩, _⟩ := hs i hic hit
   rw [← ht1]
   exact ⟨s0, ⟨l1, l2, l3, l4, l5, l6, l9, l10⟩, hq1, hq2, by show 1 ≤ p; omega, by show p ≤ q; omega⟩
  ·rw [if_neg hji]
   exact hs j (by simpa using j1) j2
theorem VerdictFirm_pure (b : Int) (ts : List TK) (a m c : Int) (h0 : 0 ≤ a) (h1 : a ≤ 4294967295) (hm0 : 0 ≤ m) (hm1 : m ≤ 255) (hc0 : 0 ≤ c) (hc1 : c ≤ 255) : pendulumlaw20_VerdictFirm.f (20000 + 3) b ts a m c = some true := by
 obtain ⟨k, hk, hkk⟩ : ∃ k, 20000 = k ∧ 20000 ≤ k := ⟨_, rfl, Nat.le_refl _⟩
 rw [hk]
 unfold pendulumlaw20_VerdictFirm.f
 unfold pendulumlaw20_awake.f
 simp only [Option.bind_some, if_true]
 rw [small_eq b ts _ (by omega)]
 simp only [Option.bind_some]
 cases hs : smallB ts with
 | false => rw [if_neg (by decide), pendulumlaw20_VerdictFirm.j0, if_pos rfl]; rfl
 | true =>
  rw [if_pos rfl, right_eq]
  simp only [Option.bind_some]
  by_cases hr : RightS b ts
  ·have hB := small_B hs
   have hn := hr.n1
   rw [(rightS_iff b ts).2 hr, show (!((0 : Int) == 0)) = false from rfl, pendulumlaw20_VerdictFirm.j0, if_neg (by decide)]
   simp only [Option.bind_some, List.nil_append, List.length_nil, Nat.zero_add]
   rw [if_pos (by omega)]
   exact firm_l0 hr h0 h1 hm0 hm1 hc0 hc1 hB.1 ts.length 0 _ ts (by omega) rfl (fun i h1 h2 => sim_self (hr.task (List.getElem_mem h2))) (by omega)
  ·have hn : ((whyS b ts).1 == 0) = false := beq_eq_false_iff_ne.2 (fun e => hr ((rightS_iff b ts).1 e))
   rw [hn, show (!false) = true from rfl, pendulumlaw20_VerdictFirm.j0, if_pos rfl]; rfl
theorem VerdictFirm_law (b : Int) (A : Option Addr) (c : Nat) (ts : List TK) (a m q : Int) (W : World) (hC : Kd.C k42 W A ts.length ts) (hc : ts.length ≤ c) (_ : ∀ t ∈ ts, okTask t) (_ : (Lit.int .i64 b).wf = true) (ha : (Lit.int .u32 a).wf = true) (hm : (Lit.int .u8 m).wf = true) (hq : (Lit.int .u8 q).wf = true) :
  Calls Tryd.prog 7 #[.agg #[.int .i64 b, .slice A ts.length c], .int .u32 a, .int .u8 m, .int .u8 q] W fun e w' => e = .returned (.bool true) ∧ Below W.heap.size W w' :=
 pendulumlaw20_VerdictFirm.calls (20000 + 3) b A c ts a m q true W hC hc (VerdictFirm_pure b ts a m q (u32_range ha).1 (u32_range ha).2 (u8_range hm).1 (u8_range hm).2 (u8_range hq).1 (u8_range hq).2) rfl
end Go.Proofs.YtjknaokhcbjbhaaDoor.Q
