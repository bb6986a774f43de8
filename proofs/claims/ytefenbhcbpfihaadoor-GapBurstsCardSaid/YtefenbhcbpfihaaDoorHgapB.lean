-- gap.Asked: walked by hand.
-- HAND pendulum/gap.Asked rounds=0 making=1
import Derived.Test.YtefenbhcbpfihaaDoorM0
import Derived.IntWalk
import Derived.WalkSpells
namespace Go.Proofs.YtefenbhcbpfihaaDoor.Q
open Go.RowKit Go.Proofs.YtefenbhcbpfihaaDoorW.PrintWords Go.Proofs.YtefenbhcbpfihaaDoorW.PrintLast Go.Proofs.YtefenbhcbpfihaaDoorW.PrintMore
attribute [local go_sem] max2_int min2_int max_two min_two max_three min_three max_four min_four   -- for this text's walks alone
set_option linter.unusedVariables false
set_option linter.unusedSimpArgs false

def gap_Asked.f (_b : Int) (_ts : List TK) : Option Int := some 21
set_option maxHeartbeats 4000000 in
set_option maxRecDepth 100000 in
theorem len64_ask (W : World) : Calls Tryd.prog 31 #[.int .u64 1049576] W fun e w' => e = .returned (.int .i64 21) ∧ w' = W := by
 go_enter Tryd.func31, Tryd.ntmps31
 go_wp2_with fail
 go_ret
 exact ⟨by show Ending.returned (Value.int .i64 (wrap64 (16 + wrap64 (Lib.len8 16)))) = _; rw [show Lib.len8 16 = 5 by kernel_rfl, show wrap64 (16 + wrap64 5) = 21 by kernel_rfl], rfl⟩
set_option maxHeartbeats 4000000 in
set_option maxRecDepth 100000 in
theorem len_ask (W : World) : Calls Tryd.prog 23 #[.int .u64 1049576] W fun e w' => e = .returned (.int .i64 21) ∧ w' = W := by
 go_enter Tryd.func23, Tryd.ntmps23
 go_wp2_with fail
 refine (len64_ask W).mono ?_
 rintro e w' ⟨rfl, rfl⟩
 go_wp2_with fail
 go_ret
 exact ⟨rfl, rfl⟩
set_option maxHeartbeats 4000000 in
set_option maxRecDepth 100000 in
theorem gap_Asked.calls (a0_0 : Int) (A0_1 : Option Addr) (c0_1 : Nat) (l0_1 : List TK) (r : Int) (w : World) (hr0_1 : Kd.C k39 w A0_1 l0_1.length l0_1) (hc0_1 : l0_1.length ≤ c0_1) (h : gap_Asked.f a0_0 l0_1 = some r) :
  Calls Tryd.prog 14 #[.agg #[.int .i64 a0_0, .slice A0_1 l0_1.length c0_1]] w fun e w' => e = .returned (.int .i64 r) ∧ Below w.heap.size w w' := by
 have e := Option.some.inj h
 rw [← e]
 have HB : Aside0 (∀ o, Below w.heap.size w (w.alloc o)) := ⟨fun o => below_alloc (Below.refl _ _) _⟩
 clear hr0_1 hc0_1 h e
 go_enter Tryd.func14, Tryd.ntmps14
 go_wp2_with fail
 refine (len_ask _).mono ?_
 rintro e w' ⟨rfl, rfl⟩
 go_wp2_with fail
 go_ret
 exact ⟨rfl, HB.out _⟩
end Go.Proofs.YtefenbhcbpfihaaDoor.Q
