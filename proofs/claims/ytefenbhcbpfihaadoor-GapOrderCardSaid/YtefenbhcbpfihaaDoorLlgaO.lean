-- GapOrder: the plain law, told of its walk.
-- NEEDS pendulum/pendulumlaw21.GapOrder
-- PLAIN
import Derived.Test.YtefenbhcbpfihaaDoorM0
import Derived.Test.YtefenbhcbpfihaaDoorQ27
import Derived.Test.YtefenbhcbpfihaaDoorHgapB
import Derived.Test.YtefenbhcbpfihaaDoorHgapK
import Derived.Test.YtefenbhcbpfihaaDoorM17
import Derived.Test.YtefenbhcbpfihaaDoorLgapQ
import Derived.Test.YtefenbhcbpfihaaDoorLsetS
namespace Go.Proofs.YtefenbhcbpfihaaDoor.Q
open Go.RowKit Go.Proofs.YtefenbhcbpfihaaDoorW.PrintWords Go.Proofs.YtefenbhcbpfihaaDoorW.PrintLast Go.Proofs.YtefenbhcbpfihaaDoorW.PrintMore
attribute [local go_sem] max2_int min2_int max_two min_two max_three min_three max_four min_four   -- for this text's walks alone
set_option linter.unusedVariables false
set_option linter.unusedSimpArgs false

theorem GapOrder_pure (b : Int) (ts : List TK) (m : Int) (hm0 : 0 ≤ m) (hm1 : m ≤ 255) : pendulumlaw21_GapOrder.f (20000 + 3) b ts m = some true := by
 obtain ⟨k, hk, hkk⟩ : ∃ k, 20000 = k ∧ 20000 ≤ k := ⟨_, rfl, Nat.le_refl _⟩
 rw [hk]
 unfold pendulumlaw21_GapOrder.f
 unfold pendulumlaw21_awake.f
 simp only [Option.bind_some, if_true]
 rw [small_eq b ts _ (by omega)]
 simp only [Option.bind_some]
 cases hs : smallB ts with
 | false => rw [if_neg (by decide), pendulumlaw21_GapOrder.j0, if_pos rfl]; rfl
 | true =>
  rw [if_pos rfl, right_eq]
  simp only [Option.bind_some]
  by_cases hr : RightS b ts
  ·have hn0 := hr.n0
   have hn := hr.n1
   obtain ⟨q, hq⟩ : ∃ q : Nat, Int.tmod (wrap64 m) (ts.length : Int) = (q : Int) := ⟨(m % (ts.length : Int)).toNat, by
    rw [w64_ok (by omega) (by omega), Int.tmod_eq_emod_of_nonneg hm0]
    have := Int.emod_nonneg m (show (ts.length : Int) ≠ 0 by omega)
    omega⟩
   have hqn : q < ts.length := by
    have h2 := Int.emod_lt_of_pos m (show 0 < (ts.length : Int) by omega)
    rw [w64_ok (by omega) (by omega), Int.tmod_eq_emod_of_nonneg hm0] at hq
    omega
   have hrc := rot_right hr q hqn
   have hgi := gapI_turn hr q hqn
   have t1 := fun g => (jdg_turn hr q hqn g).1
   rw [(rightS_iff b ts).2 hr, show (!((0 : Int) == 0)) = false from rfl, pendulumlaw21_GapOrder.j0, if_neg (by decide), if_neg (by omega), hq]
   simp only [Option.bind_some, List.nil_append, List.length_nil, Nat.zero_add, show ((q : Int)).toNat = q by omega]
   rw [if_pos (by omega), if_pos (by omega), if_pos (by rw [List.length_drop]; omega), if_pos (by rw [List.length_drop, List.length_take]; omega), show ts.drop q ++ ts.take q = rotL q ts from rfl]
   unfold gap_Asked.f
   by_cases hN : gapI b ts < 1049576
   ·rw [least_ok hr hN, least_ok hrc (by rw [hgi]; exact hN), hgi]
    simp only [Option.bind_some, if_true]
    rw [if_pos (by rw [t1]; simp)]
    rfl
   ·rw [least_none hr hN, least_none hrc (by rw [hgi]; exact hN)]
    simp only [Option.bind_some, if_true]
    rw [if_pos (by rw [t1]; simp)]
    rfl
  ·have hn : ((whyS b ts).1 == 0) = false := beq_eq_false_iff_ne.2 (fun e => hr ((rightS_iff b ts).1 e))
   rw [hn, show (!false) = true from rfl, pendulumlaw21_GapOrder.j0, if_pos rfl]; rfl
theorem GapOrder_law (b : Int) (A : Option Addr) (c : Nat) (ts : List TK) (m : Int) (W : World) (hC : Kd.C k39 W A ts.length ts) (hc : ts.length ≤ c) (_ : ∀ t ∈ ts, okTask t) (_ : (Lit.int .i64 b).wf = true) (hm : (Lit.int .u8 m).wf = true) :
  Calls Tryd.prog 6 #[.agg #[.int .i64 b, .slice A ts.length c], .int .u8 m] W fun e w' => e = .returned (.bool true) ∧ Below W.heap.size W w' :=
 pendulumlaw21_GapOrder.calls (20000 + 3) b A c ts m true W hC hc (GapOrder_pure b ts m (u8_range hm).1 (u8_range hm).2) rfl
end Go.Proofs.YtefenbhcbpfihaaDoor.Q
