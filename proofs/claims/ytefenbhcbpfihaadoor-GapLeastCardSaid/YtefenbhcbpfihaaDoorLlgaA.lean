-- GapLeast: the plain law, told of its walk.
-- NEEDS pendulum/pendulumlaw21.GapLeast
-- PLAIN
import Derived.Test.YtefenbhcbpfihaaDoorM0
import Derived.Test.YtefenbhcbpfihaaDoorQ19
import Derived.Test.YtefenbhcbpfihaaDoorQ21
import Derived.Test.YtefenbhcbpfihaaDoorQ22
import Derived.Test.YtefenbhcbpfihaaDoorHgapK
import Derived.Test.YtefenbhcbpfihaaDoorLfewB
import Derived.Test.YtefenbhcbpfihaaDoorM17
import Derived.Test.YtefenbhcbpfihaaDoorLfixU
import Derived.Test.YtefenbhcbpfihaaDoorLgapQ
import Derived.Test.YtefenbhcbpfihaaDoorLsetS
namespace Go.Proofs.YtefenbhcbpfihaaDoor.Q
open Go.RowKit Go.Proofs.YtefenbhcbpfihaaDoorW.PrintWords Go.Proofs.YtefenbhcbpfihaaDoorW.PrintLast Go.Proofs.YtefenbhcbpfihaaDoorW.PrintMore
attribute [local go_sem] max2_int min2_int max_two min_two max_three min_three max_four min_four   -- for this text's walks alone
set_option linter.unusedVariables false
set_option linter.unusedSimpArgs false

theorem gl_end {b : Int} {ts : List TK} (h : RightS b ts) (hN : gapI b ts < 1049576) (hB : ∀ t ∈ ts, 2 * (t.f2 + 2).toNat < 6100) (x : Int) (hx1 : 1 ≤ x) (hx2 : x ≤ 1049576) (k : Nat) (hk : 6200 < k) :
  ((verdict_Judge.f k b ts ((gapI b ts : Int) + 1)).bind fun bt228 => (if ((gapI b ts : Int) + 1) ≥ 1 then (if ((gapI b ts : Int) + 1) ≤ 1049576 then (if ((jdg b ts x).1 == (decide (x ≥ ((gapI b ts : Int) + 1)))) = true then (if bt228.2.2.2 = 0 then (if bt228.1 = true then ((pendulumref20_Same.f k (jdg b ts ((gapI b ts : Int) + 1)).1 (jdg b ts ((gapI b ts : Int) + 1)).2.1 (jdg b ts ((gapI b ts : Int) + 1)).2.2 bt228.1 bt228.2.1 bt228.2.2.1).bind fun t235 => (some t235)) else (some false)) else (some false)) else (some false)) else (some false)) else (some false))) = some true := by
 have hn := h.n1
 have hjl := jdg_len b ts ((gapI b ts : Int) + 1)
 have ha := acc_at h x hx1 hx2
 unfold accB at ha
 have hg : (jdg b ts ((gapI b ts : Int) + 1)).1 = true := gapI_is hN
 rw [judge_right h (by omega) (by omega) 6100 hB k (by omega)]
 simp only [Option.bind_some, if_true]
 rw [if_pos (by omega), if_pos (by omega), if_pos (by rw [ha]; simp), if_pos hg, rsame_eval _ _ (by omega) k (by omega), (vsame_iff _ _).2 rfl]
 rfl
theorem gl_right {b : Int} {ts : List TK} {a : Int} (h : RightS b ts) (h0 : 0 ≤ a) (hB : ∀ t ∈ ts, 2 * (t.f2 + 2).toNat < 6100) (k : Nat) (hk : 6300 < k) : pendulumlaw21_GapLeast.j0 k a false b ts = some true := by
 obtain ⟨k, rfl⟩ : ∃ j, k = j + 2 := ⟨k - 2, by omega⟩
 have hg := gapN_range h0
 have hn := h.n1
 have hx : wrap64 (1 + wrap64 (Int.tmod a 1049576)) = gapN a := by
  have h1 := Int.emod_nonneg a (show (1049576 : Int) ≠ 0 by decide)
  have h2 := Int.emod_lt_of_pos a (show (0 : Int) < 1049576 by decide)
  rw [Int.tmod_eq_emod_of_nonneg h0, w64_ok (x := a % 1049576) (by omega) (by omega), w64_ok (by omega) (by omega)]
  rfl
 obtain ⟨x, hxx⟩ : ∃ x, gapN a = x := ⟨_, rfl⟩
 rw [hxx] at hg hx
 rw [pendulumlaw21_GapLeast.j0, if_neg (by decide), right_eq, (rightS_iff b ts).2 h, hx]
 by_cases hN : gapI b ts < 1049576
 ·rw [least_ok h hN]
  simp only [Option.bind_some]
  rw [if_pos (show ((0 : Int) == 0) = true from rfl), judge_right h hg.1 hg.2 6100 hB _ (by omega)]
  simp only [Option.bind_some, if_true]
  by_cases h1 : (gapI b ts : Int) + 1 > 1
  ·have hl := gapI_less (b := b) (ts := ts) (gapI b ts - 1) (by omega)
   rw [show ((gapI b ts - 1 : Nat) : Int) + 1 = (gapI b ts : Int) + 1 - 1 by omega] at hl
   have hl : (jdg b ts ((gapI b ts : Int) + 1 - 1)).1 = false := hl
   rw [if_pos h1, w64_ok (by omega) (by omega), judge_right h (by omega) (by omega) 6100 hB _ (by omega)]
   simp only [Option.bind_some, if_true]
   rw [hl, pendulumlaw21_GapLeast.j1, if_neg (by decide)]
   exact gl_end h hN hB x hg.1 hg.2 k (by omega)
  ·rw [if_neg h1]
   exact gl_end h hN hB x hg.1 hg.2 (k + 1) (by omega)
 ·have hle := gapI_le b ts
  have hl := gapI_less (b := b) (ts := ts) 1049575 (by omega)
  have hl : (jdg b ts 1049576).1 = false := hl
  have hx2 := gapI_less (b := b) (ts := ts) (x - 1).toNat (by omega)
  rw [show (((x - 1).toNat : Nat) : Int) + 1 = x by omega] at hx2
  have hx2 : (jdg b ts x).1 = false := hx2
  have hjl := jdg_len b ts 1049576
  rw [least_none h hN]
  simp only [Option.bind_some]
  rw [if_pos (show ((0 : Int) == 0) = true from rfl), judge_right h hg.1 hg.2 6100 hB _ (by omega)]
  simp only [Option.bind_some, if_true]
  rw [if_neg (by decide), judge_right h (by decide) (by decide) 6100 hB _ (by omega)]
  simp only [Option.bind_some, if_true]
  rw [if_neg (by rw [hl]; decide), if_neg (by rw [hx2]; decide), rsame_eval _ _ (by omega) _ (by omega), (vsame_iff _ _).2 rfl]
  rfl
theorem gl_wrong {b : Int} {ts : List TK} {a : Int} (h : ¬ RightS b ts) (k : Nat) (hk : 10 < k) : pendulumlaw21_GapLeast.j0 k a false b ts = some true := by
 obtain ⟨k, rfl⟩ : ∃ j, k = j + 1 := ⟨k - 1, by omega⟩
 have hn : ((whyS b ts).1 == 0) = false := beq_eq_false_iff_ne.2 (fun e => h ((rightS_iff b ts).1 e))
 have e := rsame_eval (false, 0, []) (false, 0, []) (by simp) k (by simp; omega)
 simp only at e
 have e2 : vsame (false, 0, []) (false, 0, []) = true := rfl
 rw [pendulumlaw21_GapLeast.j0, if_neg (by decide), least_wrong h, right_eq, hn]
 simp only [Option.bind_some]
 rw [if_neg (by decide), if_pos trivial, if_pos trivial, e, e2]
 rfl
theorem GapLeast_pure (b : Int) (ts : List TK) (a : Int) (h0 : 0 ≤ a) : pendulumlaw21_GapLeast.f (20000 + 3) b ts a = some true := by
 obtain ⟨k, hk, hkk⟩ : ∃ k, 20000 = k ∧ 20000 ≤ k := ⟨_, rfl, Nat.le_refl _⟩
 rw [hk]
 unfold pendulumlaw21_GapLeast.f
 unfold pendulumlaw21_awake.f
 simp only [Option.bind_some, if_true]
 rw [few_eq b ts _ (by omega)]
 simp only [Option.bind_some]
 cases hfw : fewB ts with
 | false => rw [if_neg (by decide), pendulumlaw21_GapLeast.j0, if_pos rfl]; rfl
 | true =>
  rw [if_pos rfl, right_eq]
  simp only [Option.bind_some]
  by_cases hr : RightS b ts
  ·rw [(rightS_iff b ts).2 hr, if_pos (show ((0 : Int) == 0) = true from rfl), small_eq b ts _ (by omega)]
   simp only [Option.bind_some]
   cases hs : smallB ts with
   | false => rw [show (!false) = true from rfl, pendulumlaw21_GapLeast.j0, if_pos rfl]; rfl
   | true =>
    rw [show (!true) = false from rfl]
    exact gl_right hr h0 (small_B hs).1 _ (by omega)
  ·have hn : ((whyS b ts).1 == 0) = false := beq_eq_false_iff_ne.2 (fun e => hr ((rightS_iff b ts).1 e))
   rw [hn, if_neg (by decide)]
   exact gl_wrong hr _ (by omega)
theorem GapLeast_law (b : Int) (A : Option Addr) (c : Nat) (ts : List TK) (a : Int) (W : World) (hC : Kd.C k39 W A ts.length ts) (hc : ts.length ≤ c) (_ : ∀ t ∈ ts, okTask t) (_ : (Lit.int .i64 b).wf = true) (ha : (Lit.int .u32 a).wf = true) :
  Calls Tryd.prog 3 #[.agg #[.int .i64 b, .slice A ts.length c], .int .u32 a] W fun e w' => e = .returned (.bool true) ∧ Below W.heap.size W w' :=
 pendulumlaw21_GapLeast.calls (20000 + 3) b A c ts a true W hC hc (GapLeast_pure b ts a (u32_range ha).1) rfl
end Go.Proofs.YtefenbhcbpfihaaDoor.Q
