-- parse.Set and parse.Mode, in the printer's own form.
-- HAND pendulum/parse.Set rounds=0 making=1
-- HAND pendulum/parse.Mode rounds=0 making=1
-- NEEDS pendulum/lex.Tokens pendulum/index.Named pendulum/task.in pendulum/task.timed pendulum/task.moded pendulum/task.firm slices.Contains[[]string,string] slices.Index[[]string,string]
import Derived.Test.YtadfcdpalcgghaaDoorM0
import Derived.Test.YtadfcdpalcgghaaDoorHparsF
namespace Go.Proofs.YtadfcdpalcgghaaDoor.Q
open Go.RowKit Go.Proofs.YtadfcdpalcgghaaDoorW.PrintWords Go.Proofs.YtadfcdpalcgghaaDoorW.PrintLast Go.Proofs.YtadfcdpalcgghaaDoorW.PrintMore
attribute [local go_sem] max2_int min2_int max_two min_two max_three min_three max_four min_four   -- for this text's walks alone
set_option linter.unusedVariables false
set_option linter.unusedSimpArgs false

def parse_Mode.f (a0 : ByteArray) : Option Int := some (modeOf a0)
theorem parse_Mode.calls (a0 : ByteArray) (r : Int) (w : World) (h : parse_Mode.f a0 = some r) :
  Calls Tryd.prog 41 #[.string a0] w fun e w' => e = .returned (.int .i64 r) ∧ Below w.heap.size w w' := by
 obtain rfl := Option.some.inj h
 exact mode_ask a0 w
def parse_Set.f (l0 : List Int) : Option (Int × (List (S26)) × Int × Int × Int) := if okBytes l0 = true ∧ l0.length ≤ 100000 then some (parseF l0) else none
theorem parse_Set.calls (A0 : Option Addr) (c0 : Nat) (l0 : List Int) (r1 : Int) (r2 : List (S26)) (r3 : Int) (r4 : Int) (r5 : Int) (w : World) (hr0 : Kd.C (Kd.int .u8) w A0 l0.length l0) (hc0 : l0.length ≤ c0) (h : parse_Set.f l0 = some (r1, r2, r3, r4, r5)) :
  Calls Tryd.prog 17 #[.slice A0 l0.length c0] w fun e w' => ∃ v0_ : Value, e = .returned (.tuple #[.agg #[.int .i64 r1, v0_], .agg #[.int .i64 r3, .int .i64 r4, .int .i64 r5]]) ∧ Kd.R k26 26 w' w.heap.size (fun _ => True) v0_ r2 ∧ Below w.heap.size w w' := by
 unfold parse_Set.f at h
 split at h
 case isFalse => exact absurd h (by simp)
 case isTrue hcond =>
 have h2 := Option.some.inj h
 have e1 : (parseF l0).1 = r1 := by rw [h2]
 have e2 : (parseF l0).2.1 = r2 := by rw [h2]
 have e3 : (parseF l0).2.2.1 = r3 := by rw [h2]
 have e4 : (parseF l0).2.2.2.1 = r4 := by rw [h2]
 have e5 : (parseF l0).2.2.2.2 = r5 := by rw [h2]
 rw [← e1, ← e2, ← e3, ← e4, ← e5]
 exact set_ask A0 c0 l0 w hr0 hc0 hcond.1 hcond.2
end Go.Proofs.YtadfcdpalcgghaaDoor.Q
