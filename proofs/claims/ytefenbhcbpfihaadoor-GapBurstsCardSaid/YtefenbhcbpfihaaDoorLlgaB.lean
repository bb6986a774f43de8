-- GapBursts: the plain law, told of its walk.
-- NEEDS pendulum/pendulumlaw21.GapBursts
-- PLAIN
import Derived.Test.YtefenbhcbpfihaaDoorM0
import Derived.Test.YtefenbhcbpfihaaDoorQ24
import Derived.Test.YtefenbhcbpfihaaDoorHgapB
import Derived.Test.YtefenbhcbpfihaaDoorHgapK
import Derived.Test.YtefenbhcbpfihaaDoorM17
import Derived.Test.YtefenbhcbpfihaaDoorLgapQ
import Derived.Test.YtefenbhcbpfihaaDoorLsetS
namespace Go.Proofs.YtefenbhcbpfihaaDoor.Q
open Go.RowKit Go.Proofs.YtefenbhcbpfihaaDoorW.PrintWords Go.Proofs.YtefenbhcbpfihaaDoorW.PrintLast Go.Proofs.YtefenbhcbpfihaaDoorW.PrintMore
attribute [local go_sem] max2_int min2_int max_two min_two max_three min_three max_four min_four   -- for this text's walks alone
set_option linter.unusedVariables false
set_option linter.unusedSimpArgs false

theorem gb_l0 {b : Int} {ts : List TK} (h : RightS b ts) (hN : gapI b ts < 1049576) : ∀ (n i k : Nat) (q : Nat), i + n = ts.length → q < ts.length → n < k →
  pendulumlaw21_GapBursts.l0 k ((gapI b ts : Int) + 1) (q : Int) (i : Int) b ts = some true
 | 0, i, k, q, hi, hq, hk => by
  obtain ⟨k, rfl⟩ : ∃ j, k = j + 1 := ⟨k - 1, by omega⟩
  have hn := h.n1
  rw [pendulumlaw21_GapBursts.l0, if_neg (by omega)]
  by_cases h1 : (ts.length : Int) = 1
  ·rw [if_pos h1]
  ·have hs : (ts.take q ++ ts.drop (q + 1)).Sublist ts := by
    conv => rhs; rw [← List.take_append_drop q ts]
    exact List.Sublist.append (List.Sublist.refl _) (by rw [← List.drop_drop]; exact List.drop_sublist _ _)
   have hl : 1 ≤ (ts.take q ++ ts.drop (q + 1)).length := by
    rw [List.length_append, List.length_take, List.length_drop]
    omega
   have hc := sub_right h hs hl
   have hg : gapI b (ts.take q ++ ts.drop (q + 1)) ≤ gapI b ts := gapI_mono (fun g hg ha => acc_sub h hs hl g hg ha)
   rw [if_neg h1, show wrap64 ((q : Int) + 1) = ((q + 1 : Nat) : Int) by rw [w64_ok (by omega) (by omega)]; omega]
   simp only [Option.bind_some, List.nil_append, List.length_nil, Nat.zero_add, show ((q : Int)).toNat = q by omega, show (((q + 1 : Nat) : Int)).toNat = q + 1 by omega]
   rw [if_pos (by omega), if_pos (by omega), if_pos (by rw [List.length_take]; omega), if_pos (by omega), if_pos (by omega), if_pos (by rw [List.length_take, List.length_drop]; omega), least_ok hc (by omega)]
   unfold gap_Asked.f
   simp only [Option.bind_some, if_true]
   rw [if_pos (by omega)]
   rfl
 | n + 1, i, k, q, hi, hq, hk => by
  obtain ⟨k, rfl⟩ : ∃ j, k = j + 1 := ⟨k - 1, by omega⟩
  have hn := h.n1
  rw [pendulumlaw21_GapBursts.l0, if_pos (by omega), if_pos (by omega), if_pos (by omega), if_pos (by omega), show wrap64 ((i : Int) + 1) = ((i + 1 : Nat) : Int) by rw [w64_ok (by omega) (by omega)]; omega]
  split
  ·exact gb_l0 h hN n (i + 1) k i (by omega) (by omega) (by omega)
  ·exact gb_l0 h hN n (i + 1) k q (by omega) hq (by omega)
theorem gb_j1 {b b' : Int} {ts : List TK} (h : RightS b ts) (hle : b ≤ b') (hb : b' ≤ 1000) (k : Nat) (hk : 100 < k) : pendulumlaw21_GapBursts.j1 k b ts b' ts = some true := by
 obtain ⟨k, rfl⟩ : ∃ j, k = j + 2 := ⟨k - 2, by omega⟩
 have h' : RightS b' ts := burst_right h (by have := h.b0; omega) hb
 have hn := h.n1
 have hn0 := h.n0
 have hg : gapI b ts ≤ gapI b' ts := gapI_mono (fun g hg ha => acc_burst h hle hb g hg ha)
 have hN1 := gapI_le b ts
 have hN2 := gapI_le b' ts
 rw [pendulumlaw21_GapBursts.j1]
 by_cases hN : gapI b ts < 1049576
 ·rw [least_ok h hN]
  simp only [Option.bind_some]
  by_cases hN' : gapI b' ts < 1049576
  ·rw [least_ok h' hN']
   simp only [Option.bind_some, if_true]
   rw [decide_eq_false (by omega), pendulumlaw21_GapBursts.j2, if_neg (by decide)]
   exact gb_l0 h hN ts.length 0 k 0 (by omega) (by omega) (by omega)
  ·rw [least_none h' hN']
   simp only [Option.bind_some, if_true]
   rw [if_neg (by decide), pendulumlaw21_GapBursts.j2, if_neg (by decide)]
   exact gb_l0 h hN ts.length 0 k 0 (by omega) (by omega) (by omega)
 ·rw [least_none h hN, least_none h' (by omega)]
  simp only [Option.bind_some]
  rw [if_neg (by decide), if_pos trivial]
  rfl
theorem GapBursts_pure (b : Int) (ts : List TK) (m : Int) (hm0 : 0 ≤ m) (hm1 : m ≤ 255) : pendulumlaw21_GapBursts.f (20000 + 3) b ts m = some true := by
 obtain ⟨k, hk, hkk⟩ : ∃ k, 20000 = k ∧ 20000 ≤ k := ⟨_, rfl, Nat.le_refl _⟩
 rw [hk]
 unfold pendulumlaw21_GapBursts.f
 unfold pendulumlaw21_awake.f
 simp only [Option.bind_some, if_true]
 rw [small_eq b ts _ (by omega)]
 simp only [Option.bind_some]
 cases hs : smallB ts with
 | false => rw [if_neg (by decide), pendulumlaw21_GapBursts.j0, if_pos rfl]; rfl
 | true =>
  rw [if_pos rfl, right_eq]
  simp only [Option.bind_some]
  by_cases hr : RightS b ts
  ·have hb0 := hr.b0
   have hb1 := hr.b1
   have h1 := Int.emod_nonneg m (show (5 : Int) ≠ 0 by decide)
   have h2 := Int.emod_lt_of_pos m (show (0 : Int) < 5 by decide)
   rw [(rightS_iff b ts).2 hr, show (!((0 : Int) == 0)) = false from rfl, pendulumlaw21_GapBursts.j0, if_neg (by decide), Int.tmod_eq_emod_of_nonneg hm0, w64_ok (x := m % 5) (by omega) (by omega), w64_ok (x := b + m % 5) (by omega) (by omega)]
   by_cases h3 : b + m % 5 > 1000
   ·rw [if_pos h3]
    exact gb_j1 hr (by omega) (by omega) _ (by omega)
   ·rw [if_neg h3]
    exact gb_j1 hr (by omega) (by omega) _ (by omega)
  ·have hn : ((whyS b ts).1 == 0) = false := beq_eq_false_iff_ne.2 (fun e => hr ((rightS_iff b ts).1 e))
   rw [hn, show (!false) = true from rfl, pendulumlaw21_GapBursts.j0, if_pos rfl]; rfl
theorem GapBursts_law (b : Int) (A : Option Addr) (c : Nat) (ts : List TK) (m : Int) (W : World) (hC : Kd.C k39 W A ts.length ts) (hc : ts.length ≤ c) (_ : ∀ t ∈ ts, okTask t) (_ : (Lit.int .i64 b).wf = true) (hm : (Lit.int .u8 m).wf = true) :
  Calls Tryd.prog 4 #[.agg #[.int .i64 b, .slice A ts.length c], .int .u8 m] W fun e w' => e = .returned (.bool true) ∧ Below W.heap.size W w' :=
 pendulumlaw21_GapBursts.calls (20000 + 3) b A c ts m true W hC hc (GapBursts_pure b ts m (u8_range hm).1 (u8_range hm).2) rfl
end Go.Proofs.YtefenbhcbpfihaaDoor.Q
