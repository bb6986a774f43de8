-- Written for this claim by the session's own driver (wip/qprint.py) over the kit's printer, out of the translation. Not trusted: Lean checks it.
import Derived.Test.YtadfcdpalcgghaaDoorM0
namespace Go.Proofs.YtadfcdpalcgghaaDoor.Q
open Go.RowKit Go.Proofs.YtadfcdpalcgghaaDoorW.PrintWords Go.Proofs.YtadfcdpalcgghaaDoorW.PrintLast Go.Proofs.YtadfcdpalcgghaaDoorW.PrintMore
attribute [local go_sem] max2_int min2_int max_two min_two max_three min_three max_four min_four   -- for this text's walks alone
set_option linter.unusedVariables false
set_option linter.unusedSimpArgs false

/-! ### pendulumref07_Task: function 11 -/
def pendulumref07_Task.f (k : Nat) (a0_0 : ByteArray) (a0_1 : Int) (a0_2 : Int) (a0_3 : Int) (a0_4 : Int) (a0_5 : Int) (a0_6 : Int) (a0_7 : Int) (a0_8 : Int) (a0_9 : Int) (a0_10 : Int) : Option (ByteArray) := if 5 + a0_0.size ≤ 9223372036854775807 then (if ((⟨#[116, 97, 115, 107, 32]⟩ : ByteArray) ++ a0_0).size + 1 ≤ 9223372036854775807 then ((pendulumref07_Number.f k a0_1).bind fun t130 => (if (((⟨#[116, 97, 115, 107, 32]⟩ : ByteArray) ++ a0_0) ++ (⟨#[32]⟩ : ByteArray)).size + t130.size ≤ 9223372036854775807 then (if ((((⟨#[116, 97, 115, 107, 32]⟩ : ByteArray) ++ a0_0) ++ (⟨#[32]⟩ : ByteArray)) ++ t130).size + 1 ≤ 9223372036854775807 then ((pendulumref07_Number.f k a0_2).bind fun t131 => (if (((((⟨#[116, 97, 115, 107, 32]⟩ : ByteArray) ++ a0_0) ++ (⟨#[32]⟩ : ByteArray)) ++ t130) ++ (⟨#[32]⟩ : ByteArray)).size + t131.size ≤ 9223372036854775807 then (if ((((((⟨#[116, 97, 115, 107, 32]⟩ : ByteArray) ++ a0_0) ++ (⟨#[32]⟩ : ByteArray)) ++ t130) ++ (⟨#[32]⟩ : ByteArray)) ++ t131).size + 1 ≤ 9223372036854775807 then ((pendulumref07_Number.f k a0_3).bind fun t132 => (if (((((((⟨#[116, 97, 115, 107, 32]⟩ : ByteArray) ++ a0_0) ++ (⟨#[32]⟩ : ByteArray)) ++ t130) ++ (⟨#[32]⟩ : ByteArray)) ++ t131) ++ (⟨#[32]⟩ : ByteArray)).size + t132.size ≤ 9223372036854775807 then (if ((((((((⟨#[116, 97, 115, 107, 32]⟩ : ByteArray) ++ a0_0) ++ (⟨#[32]⟩ : ByteArray)) ++ t130) ++ (⟨#[32]⟩ : ByteArray)) ++ t131) ++ (⟨#[32]⟩ : ByteArray)) ++ t132).size + 1 ≤ 9223372036854775807 then ((pendulumref07_Mode.f a0_9).bind fun t133 => (if (((((((((⟨#[116, 97, 115, 107, 32]⟩ : ByteArray) ++ a0_0) ++ (⟨#[32]⟩ : ByteArray)) ++ t130) ++ (⟨#[32]⟩ : ByteArray)) ++ t131) ++ (⟨#[32]⟩ : ByteArray)) ++ t132) ++ (⟨#[32]⟩ : ByteArray)).size + t133.size ≤ 9223372036854775807 then (if ((((((((((⟨#[116, 97, 115, 107, 32]⟩ : ByteArray) ++ a0_0) ++ (⟨#[32]⟩ : ByteArray)) ++ t130) ++ (⟨#[32]⟩ : ByteArray)) ++ t131) ++ (⟨#[32]⟩ : ByteArray)) ++ t132) ++ (⟨#[32]⟩ : ByteArray)) ++ t133).size + 1 ≤ 9223372036854775807 then ((pendulumref07_Number.f k a0_4).bind fun t134 => (if (((((((((((⟨#[116, 97, 115, 107, 32]⟩ : ByteArray) ++ a0_0) ++ (⟨#[32]⟩ : ByteArray)) ++ t130) ++ (⟨#[32]⟩ : ByteArray)) ++ t131) ++ (⟨#[32]⟩ : ByteArray)) ++ t132) ++ (⟨#[32]⟩ : ByteArray)) ++ t133) ++ (⟨#[32]⟩ : ByteArray)).size + t134.size ≤ 9223372036854775807 then (if ((((((((((((⟨#[116, 97, 115, 107, 32]⟩ : ByteArray) ++ a0_0) ++ (⟨#[32]⟩ : ByteArray)) ++ t130) ++ (⟨#[32]⟩ : ByteArray)) ++ t131) ++ (⟨#[32]⟩ : ByteArray)) ++ t132) ++ (⟨#[32]⟩ : ByteArray)) ++ t133) ++ (⟨#[32]⟩ : ByteArray)) ++ t134).size + 1 ≤ 9223372036854775807 then ((pendulumref07_Number.f k a0_5).bind fun t135 => (if (((((((((((((⟨#[116, 97, 115, 107, 32]⟩ : ByteArray) ++ a0_0) ++ (⟨#[32]⟩ : ByteArray)) ++ t130) ++ (⟨#[32]⟩ : ByteArray)) ++ t131) ++ (⟨#[32]⟩ : ByteArray)) ++ t132) ++ (⟨#[32]⟩ : ByteArray)) ++ t133) ++ (⟨#[32]⟩ : ByteArray)) ++ t134) ++ (⟨#[32]⟩ : ByteArray)).size + t135.size ≤ 9223372036854775807 then (if ((((((((((((((⟨#[116, 97, 115, 107, 32]⟩ : ByteArray) ++ a0_0) ++ (⟨#[32]⟩ : ByteArray)) ++ t130) ++ (⟨#[32]⟩ : ByteArray)) ++ t131) ++ (⟨#[32]⟩ : ByteArray)) ++ t132) ++ (⟨#[32]⟩ : ByteArray)) ++ t133) ++ (⟨#[32]⟩ : ByteArray)) ++ t134) ++ (⟨#[32]⟩ : ByteArray)) ++ t135).size + 1 ≤ 9223372036854775807 then ((pendulumref07_Number.f k a0_6).bind fun t136 => (if (((((((((((((((⟨#[116, 97, 115, 107, 32]⟩ : ByteArray) ++ a0_0) ++ (⟨#[32]⟩ : ByteArray)) ++ t130) ++ (⟨#[32]⟩ : ByteArray)) ++ t131) ++ (⟨#[32]⟩ : ByteArray)) ++ t132) ++ (⟨#[32]⟩ : ByteArray)) ++ t133) ++ (⟨#[32]⟩ : ByteArray)) ++ t134) ++ (⟨#[32]⟩ : ByteArray)) ++ t135) ++ (⟨#[32]⟩ : ByteArray)).size + t136.size ≤ 9223372036854775807 then (if ((((((((((((((((⟨#[116, 97, 115, 107, 32]⟩ : ByteArray) ++ a0_0) ++ (⟨#[32]⟩ : ByteArray)) ++ t130) ++ (⟨#[32]⟩ : ByteArray)) ++ t131) ++ (⟨#[32]⟩ : ByteArray)) ++ t132) ++ (⟨#[32]⟩ : ByteArray)) ++ t133) ++ (⟨#[32]⟩ : ByteArray)) ++ t134) ++ (⟨#[32]⟩ : ByteArray)) ++ t135) ++ (⟨#[32]⟩ : ByteArray)) ++ t136).size + 1 ≤ 9223372036854775807 then ((pendulumref07_Number.f k a0_7).bind fun t137 => (if (((((((((((((((((⟨#[116, 97, 115, 107, 32]⟩ : ByteArray) ++ a0_0) ++ (⟨#[32]⟩ : ByteArray)) ++ t130) ++ (⟨#[32]⟩ : ByteArray)) ++ t131) ++ (⟨#[32]⟩ : ByteArray)) ++ t132) ++ (⟨#[32]⟩ : ByteArray)) ++ t133) ++ (⟨#[32]⟩ : ByteArray)) ++ t134) ++ (⟨#[32]⟩ : ByteArray)) ++ t135) ++ (⟨#[32]⟩ : ByteArray)) ++ t136) ++ (⟨#[32]⟩ : ByteArray)).size + t137.size ≤ 9223372036854775807 then (if ((((((((((((((((((⟨#[116, 97, 115, 107, 32]⟩ : ByteArray) ++ a0_0) ++ (⟨#[32]⟩ : ByteArray)) ++ t130) ++ (⟨#[32]⟩ : ByteArray)) ++ t131) ++ (⟨#[32]⟩ : ByteArray)) ++ t132) ++ (⟨#[32]⟩ : ByteArray)) ++ t133) ++ (⟨#[32]⟩ : ByteArray)) ++ t134) ++ (⟨#[32]⟩ : ByteArray)) ++ t135) ++ (⟨#[32]⟩ : ByteArray)) ++ t136) ++ (⟨#[32]⟩ : ByteArray)) ++ t137).size + 1 ≤ 9223372036854775807 then ((pendulumref07_Number.f k a0_8).bind fun t138 => (if (((((((((((((((((((⟨#[116, 97, 115, 107, 32]⟩ : ByteArray) ++ a0_0) ++ (⟨#[32]⟩ : ByteArray)) ++ t130) ++ (⟨#[32]⟩ : ByteArray)) ++ t131) ++ (⟨#[32]⟩ : ByteArray)) ++ t132) ++ (⟨#[32]⟩ : ByteArray)) ++ t133) ++ (⟨#[32]⟩ : ByteArray)) ++ t134) ++ (⟨#[32]⟩ : ByteArray)) ++ t135) ++ (⟨#[32]⟩ : ByteArray)) ++ t136) ++ (⟨#[32]⟩ : ByteArray)) ++ t137) ++ (⟨#[32]⟩ : ByteArray)).size + t138.size ≤ 9223372036854775807 then (if ((((((((((((((((((((⟨#[116, 97, 115, 107, 32]⟩ : ByteArray) ++ a0_0) ++ (⟨#[32]⟩ : ByteArray)) ++ t130) ++ (⟨#[32]⟩ : ByteArray)) ++ t131) ++ (⟨#[32]⟩ : ByteArray)) ++ t132) ++ (⟨#[32]⟩ : ByteArray)) ++ t133) ++ (⟨#[32]⟩ : ByteArray)) ++ t134) ++ (⟨#[32]⟩ : ByteArray)) ++ t135) ++ (⟨#[32]⟩ : ByteArray)) ++ t136) ++ (⟨#[32]⟩ : ByteArray)) ++ t137) ++ (⟨#[32]⟩ : ByteArray)) ++ t138).size + 1 ≤ 9223372036854775807 then ((pendulumref07_Number.f k a0_10).bind fun t139 => (if (((((((((((((((((((((⟨#[116, 97, 115, 107, 32]⟩ : ByteArray) ++ a0_0) ++ (⟨#[32]⟩ : ByteArray)) ++ t130) ++ (⟨#[32]⟩ : ByteArray)) ++ t131) ++ (⟨#[32]⟩ : ByteArray)) ++ t132) ++ (⟨#[32]⟩ : ByteArray)) ++ t133) ++ (⟨#[32]⟩ : ByteArray)) ++ t134) ++ (⟨#[32]⟩ : ByteArray)) ++ t135) ++ (⟨#[32]⟩ : ByteArray)) ++ t136) ++ (⟨#[32]⟩ : ByteArray)) ++ t137) ++ (⟨#[32]⟩ : ByteArray)) ++ t138) ++ (⟨#[32]⟩ : ByteArray)).size + t139.size ≤ 9223372036854775807 then (some ((((((((((((((((((((((⟨#[116, 97, 115, 107, 32]⟩ : ByteArray) ++ a0_0) ++ (⟨#[32]⟩ : ByteArray)) ++ t130) ++ (⟨#[32]⟩ : ByteArray)) ++ t131) ++ (⟨#[32]⟩ : ByteArray)) ++ t132) ++ (⟨#[32]⟩ : ByteArray)) ++ t133) ++ (⟨#[32]⟩ : ByteArray)) ++ t134) ++ (⟨#[32]⟩ : ByteArray)) ++ t135) ++ (⟨#[32]⟩ : ByteArray)) ++ t136) ++ (⟨#[32]⟩ : ByteArray)) ++ t137) ++ (⟨#[32]⟩ : ByteArray)) ++ t138) ++ (⟨#[32]⟩ : ByteArray)) ++ t139)) else (none))) else (none)) else (none))) else (none)) else (none))) else (none)) else (none))) else (none)) else (none))) else (none)) else (none))) else (none)) else (none))) else (none)) else (none))) else (none)) else (none))) else (none)) else (none))) else (none)) else (none)
theorem pendulumref07_Task.mono : ∀ a0 a1 a2 a3 a4 a5 a6 a7 a8 a9 a10 k, LeO (pendulumref07_Task.f k a0 a1 a2 a3 a4 a5 a6 a7 a8 a9 a10) (pendulumref07_Task.f (k + 1) a0 a1 a2 a3 a4 a5 a6 a7 a8 a9 a10) := by
 intro a0 a1 a2 a3 a4 a5 a6 a7 a8 a9 a10 k
 unfold pendulumref07_Task.f
 repeat' first
   | (with_reducible exact pendulumref07_Number.mono _ _)
   | (with_reducible exact LeO.refl _)
   | (with_reducible exact LeO.none _)
   | (with_reducible refine LeO.ite ?_ ?_)
   | (with_reducible refine LeO.bind ?_ (fun _ => ?_))
   | exact pendulumref07_Number.mono _ _
   | exact LeO.none _
   | refine LeO.ite ?_ ?_
   | refine LeO.bind ?_ (fun _ => ?_)
def pendulumref07_Task.T1 : Bool × List (List Nat × List Nat) := (true, [([], []), ([0], [0]), ([1], [1]), ([2], [2]), ([], []), ([4], [4]), ([5], [5]), ([3, 6], [3, 6]), ([7], [7]), ([], []), ([9], [9]), ([10, 6], [10]), ([8, 11], [8, 11]), ([12], [12]), ([], []), ([14], [14]), ([15, 11], [15]), ([13, 16], [13, 16]), ([17], [17]), ([], []), ([19], [19]), ([20, 16], [20]), ([18, 21], [18, 21]), ([22, 21, 0, 1, 2, 3, 4, 5, 6, 7, 8, 9, 10, 11, 12, 13, 14, 15, 16, 17, 18, 19, 20, 21, 22], [22])])
def pendulumref07_Task.B1 : List Nat := [0, 1, 3, 7, 0, 16, 48, 127, 255, 0, 512, 1648, 4095, 8191, 0, 16384, 52848, 131071, 262143, 0, 524288, 1691248, 4194303, 8388607]
theorem pendulumref07_Task.tab1 : rtab .any (opsOf Tryd.f11 1) = pendulumref07_Task.T1 := by kernel_rfl
theorem pendulumref07_Task.bits1 : waitsOk pendulumref07_Task.T1.2 pendulumref07_Task.B1 = true := by kernel_rfl
def pendulumref07_Task.T2 : Bool × List (List Nat × List Nat) := (true, [([], []), ([0], [0]), ([], []), ([2], [2]), ([3], [3]), ([1, 4], [1, 4]), ([5], [5]), ([], []), ([7], [7]), ([8, 4], [8]), ([6, 9], [6, 9]), ([10], [10]), ([], []), ([12], [12]), ([13, 9], [13]), ([11, 14], [11, 14]), ([15], [15]), ([], []), ([17], [17]), ([18, 14], [18]), ([16, 19], [16, 19]), ([20], [20]), ([], []), ([22], [22]), ([23, 19], [23]), ([21, 24], [21, 24]), ([25], [25]), ([], []), ([27], [27]), ([28, 24], [28]), ([26, 29], [26, 29]), ([30, 29, 0, 1, 2, 3, 4, 5, 6, 7, 8, 9, 10, 11, 12, 13, 14, 15, 16, 17, 18, 19, 20, 21, 22, 23, 24, 25, 26, 27, 28, 29, 30], [30])])
def pendulumref07_Task.B2 : List Nat := [0, 1, 0, 4, 12, 31, 63, 0, 128, 412, 1023, 2047, 0, 4096, 13212, 32767, 65535, 0, 131072, 422812, 1048575, 2097151, 0, 4194304, 13530012, 33554431, 67108863, 0, 134217728, 432960412, 1073741823, 2147483647]
theorem pendulumref07_Task.tab2 : rtab .any (opsOf Tryd.f11 2) = pendulumref07_Task.T2 := by kernel_rfl
theorem pendulumref07_Task.bits2 : waitsOk pendulumref07_Task.T2.2 pendulumref07_Task.B2 = true := by kernel_rfl
set_option maxHeartbeats 8000000 in
set_option maxRecDepth 100000 in
theorem pendulumref07_Task.calls (k : Nat) (a0_0 : ByteArray) (a0_1 : Int) (a0_2 : Int) (a0_3 : Int) (a0_4 : Int) (a0_5 : Int) (a0_6 : Int) (a0_7 : Int) (a0_8 : Int) (a0_9 : Int) (a0_10 : Int) (r : ByteArray) (w : World) (h : pendulumref07_Task.f k a0_0 a0_1 a0_2 a0_3 a0_4 a0_5 a0_6 a0_7 a0_8 a0_9 a0_10 = some r) :
  Calls Tryd.prog 11 #[.agg #[.string a0_0, .int .i64 a0_1, .int .i64 a0_2, .int .i64 a0_3, .int .i64 a0_4, .int .i64 a0_5, .int .i64 a0_6, .int .i64 a0_7, .int .i64 a0_8, .int .i64 a0_9, .int .i64 a0_10]] w fun e w' => e = .returned (.string r) ∧ Below w.heap.size w w' := by
 have hu26 := Tryd.underlying26
 have HB := Aside0.mk (Below.refl w.heap.size w)
 have H : (if 5 + a0_0.size ≤ 9223372036854775807 then (if ((⟨#[116, 97, 115, 107, 32]⟩ : ByteArray) ++ a0_0).size + 1 ≤ 9223372036854775807 then ((pendulumref07_Number.f k a0_1).bind fun t130 => (if (((⟨#[116, 97, 115, 107, 32]⟩ : ByteArray) ++ a0_0) ++ (⟨#[32]⟩ : ByteArray)).size + t130.size ≤ 9223372036854775807 then (if ((((⟨#[116, 97, 115, 107, 32]⟩ : ByteArray) ++ a0_0) ++ (⟨#[32]⟩ : ByteArray)) ++ t130).size + 1 ≤ 9223372036854775807 then ((pendulumref07_Number.f k a0_2).bind fun t131 => (if (((((⟨#[116, 97, 115, 107, 32]⟩ : ByteArray) ++ a0_0) ++ (⟨#[32]⟩ : ByteArray)) ++ t130) ++ (⟨#[32]⟩ : ByteArray)).size + t131.size ≤ 9223372036854775807 then (if ((((((⟨#[116, 97, 115, 107, 32]⟩ : ByteArray) ++ a0_0) ++ (⟨#[32]⟩ : ByteArray)) ++ t130) ++ (⟨#[32]⟩ : ByteArray)) ++ t131).size + 1 ≤ 9223372036854775807 then ((pendulumref07_Number.f k a0_3).bind fun t132 => (if (((((((⟨#[116, 97, 115, 107, 32]⟩ : ByteArray) ++ a0_0) ++ (⟨#[32]⟩ : ByteArray)) ++ t130) ++ (⟨#[32]⟩ : ByteArray)) ++ t131) ++ (⟨#[32]⟩ : ByteArray)).size + t132.size ≤ 9223372036854775807 then (if ((((((((⟨#[116, 97, 115, 107, 32]⟩ : ByteArray) ++ a0_0) ++ (⟨#[32]⟩ : ByteArray)) ++ t130) ++ (⟨#[32]⟩ : ByteArray)) ++ t131) ++ (⟨#[32]⟩ : ByteArray)) ++ t132).size + 1 ≤ 9223372036854775807 then ((pendulumref07_Mode.f a0_9).bind fun t133 => (if (((((((((⟨#[116, 97, 115, 107, 32]⟩ : ByteArray) ++ a0_0) ++ (⟨#[32]⟩ : ByteArray)) ++ t130) ++ (⟨#[32]⟩ : ByteArray)) ++ t131) ++ (⟨#[32]⟩ : ByteArray)) ++ t132) ++ (⟨#[32]⟩ : ByteArray)).size + t133.size ≤ 9223372036854775807 then (if ((((((((((⟨#[116, 97, 115, 107, 32]⟩ : ByteArray) ++ a0_0) ++ (⟨#[32]⟩ : ByteArray)) ++ t130) ++ (⟨#[32]⟩ : ByteArray)) ++ t131) ++ (⟨#[32]⟩ : ByteArray)) ++ t132) ++ (⟨#[32]⟩ : ByteArray)) ++ t133).size + 1 ≤ 9223372036854775807 then ((pendulumref07_Number.f k a0_4).bind fun t134 => (if (((((((((((⟨#[116, 97, 115, 107, 32]⟩ : ByteArray) ++ a0_0) ++ (⟨#[32]⟩ : ByteArray)) ++ t130) ++ (⟨#[32]⟩ : ByteArray)) ++ t131) ++ (⟨#[32]⟩ : ByteArray)) ++ t132) ++ (⟨#[32]⟩ : ByteArray)) ++ t133) ++ (⟨#[32]⟩ : ByteArray)).size + t134.size ≤ 9223372036854775807 then (if ((((((((((((⟨#[116, 97, 115, 107, 32]⟩ : ByteArray) ++ a0_0) ++ (⟨#[32]⟩ : ByteArray)) ++ t130) ++ (⟨#[32]⟩ : ByteArray)) ++ t131) ++ (⟨#[32]⟩ : ByteArray)) ++ t132) ++ (⟨#[32]⟩ : ByteArray)) ++ t133) ++ (⟨#[32]⟩ : ByteArray)) ++ t134).size + 1 ≤ 9223372036854775807 then ((pendulumref07_Number.f k a0_5).bind fun t135 => (if (((((((((((((⟨#[116, 97, 115, 107, 32]⟩ : ByteArray) ++ a0_0) ++ (⟨#[32]⟩ : ByteArray)) ++ t130) ++ (⟨#[32]⟩ : ByteArray)) ++ t131) ++ (⟨#[32]⟩ : ByteArray)) ++ t132) ++ (⟨#[32]⟩ : ByteArray)) ++ t133) ++ (⟨#[32]⟩ : ByteArray)) ++ t134) ++ (⟨#[32]⟩ : ByteArray)).size + t135.size ≤ 9223372036854775807 then (if ((((((((((((((⟨#[116, 97, 115, 107, 32]⟩ : ByteArray) ++ a0_0) ++ (⟨#[32]⟩ : ByteArray)) ++ t130) ++ (⟨#[32]⟩ : ByteArray)) ++ t131) ++ (⟨#[32]⟩ : ByteArray)) ++ t132) ++ (⟨#[32]⟩ : ByteArray)) ++ t133) ++ (⟨#[32]⟩ : ByteArray)) ++ t134) ++ (⟨#[32]⟩ : ByteArray)) ++ t135).size + 1 ≤ 9223372036854775807 then ((pendulumref07_Number.f k a0_6).bind fun t136 => (if (((((((((((((((⟨#[116, 97, 115, 107, 32]⟩ : ByteArray) ++ a0_0) ++ (⟨#[32]⟩ : ByteArray)) ++ t130) ++ (⟨#[32]⟩ : ByteArray)) ++ t131) ++ (⟨#[32]⟩ : ByteArray)) ++ t132) ++ (⟨#[32]⟩ : ByteArray)) ++ t133) ++ (⟨#[32]⟩ : ByteArray)) ++ t134) ++ (⟨#[32]⟩ : ByteArray)) ++ t135) ++ (⟨#[32]⟩ : ByteArray)).size + t136.size ≤ 9223372036854775807 then (if ((((((((((((((((⟨#[116, 97, 115, 107, 32]⟩ : ByteArray) ++ a0_0) ++ (⟨#[32]⟩ : ByteArray)) ++ t130) ++ (⟨#[32]⟩ : ByteArray)) ++ t131) ++ (⟨#[32]⟩ : ByteArray)) ++ t132) ++ (⟨#[32]⟩ : ByteArray)) ++ t133) ++ (⟨#[32]⟩ : ByteArray)) ++ t134) ++ (⟨#[32]⟩ : ByteArray)) ++ t135) ++ (⟨#[32]⟩ : ByteArray)) ++ t136).size + 1 ≤ 9223372036854775807 then ((pendulumref07_Number.f k a0_7).bind fun t137 => (if (((((((((((((((((⟨#[116, 97, 115, 107, 32]⟩ : ByteArray) ++ a0_0) ++ (⟨#[32]⟩ : ByteArray)) ++ t130) ++ (⟨#[32]⟩ : ByteArray)) ++ t131) ++ (⟨#[32]⟩ : ByteArray)) ++ t132) ++ (⟨#[32]⟩ : ByteArray)) ++ t133) ++ (⟨#[32]⟩ : ByteArray)) ++ t134) ++ (⟨#[32]⟩ : ByteArray)) ++ t135) ++ (⟨#[32]⟩ : ByteArray)) ++ t136) ++ (⟨#[32]⟩ : ByteArray)).size + t137.size ≤ 9223372036854775807 then (if ((((((((((((((((((⟨#[116, 97, 115, 107, 32]⟩ : ByteArray) ++ a0_0) ++ (⟨#[32]⟩ : ByteArray)) ++ t130) ++ (⟨#[32]⟩ : ByteArray)) ++ t131) ++ (⟨#[32]⟩ : ByteArray)) ++ t132) ++ (⟨#[32]⟩ : ByteArray)) ++ t133) ++ (⟨#[32]⟩ : ByteArray)) ++ t134) ++ (⟨#[32]⟩ : ByteArray)) ++ t135) ++ (⟨#[32]⟩ : ByteArray)) ++ t136) ++ (⟨#[32]⟩ : ByteArray)) ++ t137).size + 1 ≤ 9223372036854775807 then ((pendulumref07_Number.f k a0_8).bind fun t138 => (if (((((((((((((((((((⟨#[116, 97, 115, 107, 32]⟩ : ByteArray) ++ a0_0) ++ (⟨#[32]⟩ : ByteArray)) ++ t130) ++ (⟨#[32]⟩ : ByteArray)) ++ t131) ++ (⟨#[32]⟩ : ByteArray)) ++ t132) ++ (⟨#[32]⟩ : ByteArray)) ++ t133) ++ (⟨#[32]⟩ : ByteArray)) ++ t134) ++ (⟨#[32]⟩ : ByteArray)) ++ t135) ++ (⟨#[32]⟩ : ByteArray)) ++ t136) ++ (⟨#[32]⟩ : ByteArray)) ++ t137) ++ (⟨#[32]⟩ : ByteArray)).size + t138.size ≤ 9223372036854775807 then (if ((((((((((((((((((((⟨#[116, 97, 115, 107, 32]⟩ : ByteArray) ++ a0_0) ++ (⟨#[32]⟩ : ByteArray)) ++ t130) ++ (⟨#[32]⟩ : ByteArray)) ++ t131) ++ (⟨#[32]⟩ : ByteArray)) ++ t132) ++ (⟨#[32]⟩ : ByteArray)) ++ t133) ++ (⟨#[32]⟩ : ByteArray)) ++ t134) ++ (⟨#[32]⟩ : ByteArray)) ++ t135) ++ (⟨#[32]⟩ : ByteArray)) ++ t136) ++ (⟨#[32]⟩ : ByteArray)) ++ t137) ++ (⟨#[32]⟩ : ByteArray)) ++ t138).size + 1 ≤ 9223372036854775807 then ((pendulumref07_Number.f k a0_10).bind fun t139 => (if (((((((((((((((((((((⟨#[116, 97, 115, 107, 32]⟩ : ByteArray) ++ a0_0) ++ (⟨#[32]⟩ : ByteArray)) ++ t130) ++ (⟨#[32]⟩ : ByteArray)) ++ t131) ++ (⟨#[32]⟩ : ByteArray)) ++ t132) ++ (⟨#[32]⟩ : ByteArray)) ++ t133) ++ (⟨#[32]⟩ : ByteArray)) ++ t134) ++ (⟨#[32]⟩ : ByteArray)) ++ t135) ++ (⟨#[32]⟩ : ByteArray)) ++ t136) ++ (⟨#[32]⟩ : ByteArray)) ++ t137) ++ (⟨#[32]⟩ : ByteArray)) ++ t138) ++ (⟨#[32]⟩ : ByteArray)).size + t139.size ≤ 9223372036854775807 then (some ((((((((((((((((((((((⟨#[116, 97, 115, 107, 32]⟩ : ByteArray) ++ a0_0) ++ (⟨#[32]⟩ : ByteArray)) ++ t130) ++ (⟨#[32]⟩ : ByteArray)) ++ t131) ++ (⟨#[32]⟩ : ByteArray)) ++ t132) ++ (⟨#[32]⟩ : ByteArray)) ++ t133) ++ (⟨#[32]⟩ : ByteArray)) ++ t134) ++ (⟨#[32]⟩ : ByteArray)) ++ t135) ++ (⟨#[32]⟩ : ByteArray)) ++ t136) ++ (⟨#[32]⟩ : ByteArray)) ++ t137) ++ (⟨#[32]⟩ : ByteArray)) ++ t138) ++ (⟨#[32]⟩ : ByteArray)) ++ t139)) else (none))) else (none)) else (none))) else (none)) else (none))) else (none)) else (none))) else (none)) else (none))) else (none)) else (none))) else (none)) else (none))) else (none)) else (none))) else (none)) else (none))) else (none)) else (none))) else (none)) else (none)) = some r := h
 clear h
 by_cases c2 : 5 + a0_0.size ≤ 9223372036854775807
 ·rw [if_pos c2] at H
  have c2b0 := eq_true c2
  have c2b1 : decide (5 + a0_0.size ≤ 9223372036854775807) = true := decide_eq_true c2
  try have c2b2 : (9223372036854775807 < 5 + a0_0.size) = False := eq_false (Nat.not_lt.2 c2)
  by_cases c3 : ((⟨#[116, 97, 115, 107, 32]⟩ : ByteArray) ++ a0_0).size + 1 ≤ 9223372036854775807
  ·rw [if_pos c3] at H
   have c3b0 := eq_true c3
   have c3b1 : decide (((⟨#[116, 97, 115, 107, 32]⟩ : ByteArray) ++ a0_0).size + 1 ≤ 9223372036854775807) = true := decide_eq_true c3
   try have c3b2 : (9223372036854775807 < ((⟨#[116, 97, 115, 107, 32]⟩ : ByteArray) ++ a0_0).size + 1) = False := eq_false (Nat.not_lt.2 c3)
   (try (have c3b7 := c3b2; simp only [ByteArray.size_append, show (⟨#[116, 97, 115, 107, 32]⟩ : ByteArray).size = 5 from rfl] at c3b7))
   replace H := Option.bind_eq_some_iff.mp H
   obtain ⟨t130, A40, H⟩ := H
   replace H : (if (((⟨#[116, 97, 115, 107, 32]⟩ : ByteArray) ++ a0_0) ++ (⟨#[32]⟩ : ByteArray)).size + t130.size ≤ 9223372036854775807 then (if ((((⟨#[116, 97, 115, 107, 32]⟩ : ByteArray) ++ a0_0) ++ (⟨#[32]⟩ : ByteArray)) ++ t130).size + 1 ≤ 9223372036854775807 then ((pendulumref07_Number.f k a0_2).bind fun t131 => (if (((((⟨#[116, 97, 115, 107, 32]⟩ : ByteArray) ++ a0_0) ++ (⟨#[32]⟩ : ByteArray)) ++ t130) ++ (⟨#[32]⟩ : ByteArray)).size + t131.size ≤ 9223372036854775807 then (if ((((((⟨#[116, 97, 115, 107, 32]⟩ : ByteArray) ++ a0_0) ++ (⟨#[32]⟩ : ByteArray)) ++ t130) ++ (⟨#[32]⟩ : ByteArray)) ++ t131).size + 1 ≤ 9223372036854775807 then ((pendulumref07_Number.f k a0_3).bind fun t132 => (if (((((((⟨#[116, 97, 115, 107, 32]⟩ : ByteArray) ++ a0_0) ++ (⟨#[32]⟩ : ByteArray)) ++ t130) ++ (⟨#[32]⟩ : ByteArray)) ++ t131) ++ (⟨#[32]⟩ : ByteArray)).size + t132.size ≤ 9223372036854775807 then (if ((((((((⟨#[116, 97, 115, 107, 32]⟩ : ByteArray) ++ a0_0) ++ (⟨#[32]⟩ : ByteArray)) ++ t130) ++ (⟨#[32]⟩ : ByteArray)) ++ t131) ++ (⟨#[32]⟩ : ByteArray)) ++ t132).size + 1 ≤ 9223372036854775807 then ((pendulumref07_Mode.f a0_9).bind fun t133 => (if (((((((((⟨#[116, 97, 115, 107, 32]⟩ : ByteArray) ++ a0_0) ++ (⟨#[32]⟩ : ByteArray)) ++ t130) ++ (⟨#[32]⟩ : ByteArray)) ++ t131) ++ (⟨#[32]⟩ : ByteArray)) ++ t132) ++ (⟨#[32]⟩ : ByteArray)).size + t133.size ≤ 9223372036854775807 then (if ((((((((((⟨#[116, 97, 115, 107, 32]⟩ : ByteArray) ++ a0_0) ++ (⟨#[32]⟩ : ByteArray)) ++ t130) ++ (⟨#[32]⟩ : ByteArray)) ++ t131) ++ (⟨#[32]⟩ : ByteArray)) ++ t132) ++ (⟨#[32]⟩ : ByteArray)) ++ t133).size + 1 ≤ 9223372036854775807 then ((pendulumref07_Number.f k a0_4).bind fun t134 => (if (((((((((((⟨#[116, 97, 115, 107, 32]⟩ : ByteArray) ++ a0_0) ++ (⟨#[32]⟩ : ByteArray)) ++ t130) ++ (⟨#[32]⟩ : ByteArray)) ++ t131) ++ (⟨#[32]⟩ : ByteArray)) ++ t132) ++ (⟨#[32]⟩ : ByteArray)) ++ t133) ++ (⟨#[32]⟩ : ByteArray)).size + t134.size ≤ 9223372036854775807 then (if ((((((((((((⟨#[116, 97, 115, 107, 32]⟩ : ByteArray) ++ a0_0) ++ (⟨#[32]⟩ : ByteArray)) ++ t130) ++ (⟨#[32]⟩ : ByteArray)) ++ t131) ++ (⟨#[32]⟩ : ByteArray)) ++ t132) ++ (⟨#[32]⟩ : ByteArray)) ++ t133) ++ (⟨#[32]⟩ : ByteArray)) ++ t134).size + 1 ≤ 9223372036854775807 then ((pendulumref07_Number.f k a0_5).bind fun t135 => (if (((((((((((((⟨#[116, 97, 115, 107, 32]⟩ : ByteArray) ++ a0_0) ++ (⟨#[32]⟩ : ByteArray)) ++ t130) ++ (⟨#[32]⟩ : ByteArray)) ++ t131) ++ (⟨#[32]⟩ : ByteArray)) ++ t132) ++ (⟨#[32]⟩ : ByteArray)) ++ t133) ++ (⟨#[32]⟩ : ByteArray)) ++ t134) ++ (⟨#[32]⟩ : ByteArray)).size + t135.size ≤ 9223372036854775807 then (if ((((((((((((((⟨#[116, 97, 115, 107, 32]⟩ : ByteArray) ++ a0_0) ++ (⟨#[32]⟩ : ByteArray)) ++ t130) ++ (⟨#[32]⟩ : ByteArray)) ++ t131) ++ (⟨#[32]⟩ : ByteArray)) ++ t132) ++ (⟨#[32]⟩ : ByteArray)) ++ t133) ++ (⟨#[32]⟩ : ByteArray)) ++ t134) ++ (⟨#[32]⟩ : ByteArray)) ++ t135).size + 1 ≤ 9223372036854775807 then ((pendulumref07_Number.f k a0_6).bind fun t136 => (if (((((((((((((((⟨#[116, 97, 115, 107, 32]⟩ : ByteArray) ++ a0_0) ++ (⟨#[32]⟩ : ByteArray)) ++ t130) ++ (⟨#[32]⟩ : ByteArray)) ++ t131) ++ (⟨#[32]⟩ : ByteArray)) ++ t132) ++ (⟨#[32]⟩ : ByteArray)) ++ t133) ++ (⟨#[32]⟩ : ByteArray)) ++ t134) ++ (⟨#[32]⟩ : ByteArray)) ++ t135) ++ (⟨#[32]⟩ : ByteArray)).size + t136.size ≤ 9223372036854775807 then (if ((((((((((((((((⟨#[116, 97, 115, 107, 32]⟩ : ByteArray) ++ a0_0) ++ (⟨#[32]⟩ : ByteArray)) ++ t130) ++ (⟨#[32]⟩ : ByteArray)) ++ t131) ++ (⟨#[32]⟩ : ByteArray)) ++ t132) ++ (⟨#[32]⟩ : ByteArray)) ++ t133) ++ (⟨#[32]⟩ : ByteArray)) ++ t134) ++ (⟨#[32]⟩ : ByteArray)) ++ t135) ++ (⟨#[32]⟩ : ByteArray)) ++ t136).size + 1 ≤ 9223372036854775807 then ((pendulumref07_Number.f k a0_7).bind fun t137 => (if (((((((((((((((((⟨#[116, 97, 115, 107, 32]⟩ : ByteArray) ++ a0_0) ++ (⟨#[32]⟩ : ByteArray)) ++ t130) ++ (⟨#[32]⟩ : ByteArray)) ++ t131) ++ (⟨#[32]⟩ : ByteArray)) ++ t132) ++ (⟨#[32]⟩ : ByteArray)) ++ t133) ++ (⟨#[32]⟩ : ByteArray)) ++ t134) ++ (⟨#[32]⟩ : ByteArray)) ++ t135) ++ (⟨#[32]⟩ : ByteArray)) ++ t136) ++ (⟨#[32]⟩ : ByteArray)).size + t137.size ≤ 9223372036854775807 then (if ((((((((((((((((((⟨#[116, 97, 115, 107, 32]⟩ : ByteArray) ++ a0_0) ++ (⟨#[32]⟩ : ByteArray)) ++ t130) ++ (⟨#[32]⟩ : ByteArray)) ++ t131) ++ (⟨#[32]⟩ : ByteArray)) ++ t132) ++ (⟨#[32]⟩ : ByteArray)) ++ t133) ++ (⟨#[32]⟩ : ByteArray)) ++ t134) ++ (⟨#[32]⟩ : ByteArray)) ++ t135) ++ (⟨#[32]⟩ : ByteArray)) ++ t136) ++ (⟨#[32]⟩ : ByteArray)) ++ t137).size + 1 ≤ 9223372036854775807 then ((pendulumref07_Number.f k a0_8).bind fun t138 => (if (((((((((((((((((((⟨#[116, 97, 115, 107, 32]⟩ : ByteArray) ++ a0_0) ++ (⟨#[32]⟩ : ByteArray)) ++ t130) ++ (⟨#[32]⟩ : ByteArray)) ++ t131) ++ (⟨#[32]⟩ : ByteArray)) ++ t132) ++ (⟨#[32]⟩ : ByteArray)) ++ t133) ++ (⟨#[32]⟩ : ByteArray)) ++ t134) ++ (⟨#[32]⟩ : ByteArray)) ++ t135) ++ (⟨#[32]⟩ : ByteArray)) ++ t136) ++ (⟨#[32]⟩ : ByteArray)) ++ t137) ++ (⟨#[32]⟩ : ByteArray)).size + t138.size ≤ 9223372036854775807 then (if ((((((((((((((((((((⟨#[116, 97, 115, 107, 32]⟩ : ByteArray) ++ a0_0) ++ (⟨#[32]⟩ : ByteArray)) ++ t130) ++ (⟨#[32]⟩ : ByteArray)) ++ t131) ++ (⟨#[32]⟩ : ByteArray)) ++ t132) ++ (⟨#[32]⟩ : ByteArray)) ++ t133) ++ (⟨#[32]⟩ : ByteArray)) ++ t134) ++ (⟨#[32]⟩ : ByteArray)) ++ t135) ++ (⟨#[32]⟩ : ByteArray)) ++ t136) ++ (⟨#[32]⟩ : ByteArray)) ++ t137) ++ (⟨#[32]⟩ : ByteArray)) ++ t138).size + 1 ≤ 9223372036854775807 then ((pendulumref07_Number.f k a0_10).bind fun t139 => (if (((((((((((((((((((((⟨#[116, 97, 115, 107, 32]⟩ : ByteArray) ++ a0_0) ++ (⟨#[32]⟩ : ByteArray)) ++ t130) ++ (⟨#[32]⟩ : ByteArray)) ++ t131) ++ (⟨#[32]⟩ : ByteArray)) ++ t132) ++ (⟨#[32]⟩ : ByteArray)) ++ t133) ++ (⟨#[32]⟩ : ByteArray)) ++ t134) ++ (⟨#[32]⟩ : ByteArray)) ++ t135) ++ (⟨#[32]⟩ : ByteArray)) ++ t136) ++ (⟨#[32]⟩ : ByteArray)) ++ t137) ++ (⟨#[32]⟩ : ByteArray)) ++ t138) ++ (⟨#[32]⟩ : ByteArray)).size + t139.size ≤ 9223372036854775807 then (some ((((((((((((((((((((((⟨#[116, 97, 115, 107, 32]⟩ : ByteArray) ++ a0_0) ++ (⟨#[32]⟩ : ByteArray)) ++ t130) ++ (⟨#[32]⟩ : ByteArray)) ++ t131) ++ (⟨#[32]⟩ : ByteArray)) ++ t132) ++ (⟨#[32]⟩ : ByteArray)) ++ t133) ++ (⟨#[32]⟩ : ByteArray)) ++ t134) ++ (⟨#[32]⟩ : ByteArray)) ++ t135) ++ (⟨#[32]⟩ : ByteArray)) ++ t136) ++ (⟨#[32]⟩ : ByteArray)) ++ t137) ++ (⟨#[32]⟩ : ByteArray)) ++ t138) ++ (⟨#[32]⟩ : ByteArray)) ++ t139)) else (none))) else (none)) else (none))) else (none)) else (none))) else (none)) else (none))) else (none)) else (none))) else (none)) else (none))) else (none)) else (none))) else (none)) else (none))) else (none)) else (none))) else (none)) else (none)) = some r := H
   have A4 := Aside0.mk A40
   clear A40
   by_cases c5 : (((⟨#[116, 97, 115, 107, 32]⟩ : ByteArray) ++ a0_0) ++ (⟨#[32]⟩ : ByteArray)).size + t130.size ≤ 9223372036854775807
   ·rw [if_pos c5] at H
    have c5b0 := eq_true c5
    have c5b1 : decide ((((⟨#[116, 97, 115, 107, 32]⟩ : ByteArray) ++ a0_0) ++ (⟨#[32]⟩ : ByteArray)).size + t130.size ≤ 9223372036854775807) = true := decide_eq_true c5
    try have c5b2 : (9223372036854775807 < (((⟨#[116, 97, 115, 107, 32]⟩ : ByteArray) ++ a0_0) ++ (⟨#[32]⟩ : ByteArray)).size + t130.size) = False := eq_false (Nat.not_lt.2 c5)
    (try (have c5b7 := c5b2; simp only [ByteArray.size_append, show (⟨#[116, 97, 115, 107, 32]⟩ : ByteArray).size = 5 from rfl, show (⟨#[32]⟩ : ByteArray).size = 1 from rfl] at c5b7))
    by_cases c6 : ((((⟨#[116, 97, 115, 107, 32]⟩ : ByteArray) ++ a0_0) ++ (⟨#[32]⟩ : ByteArray)) ++ t130).size + 1 ≤ 9223372036854775807
    ·rw [if_pos c6] at H
     have c6b0 := eq_true c6
     have c6b1 : decide (((((⟨#[116, 97, 115, 107, 32]⟩ : ByteArray) ++ a0_0) ++ (⟨#[32]⟩ : ByteArray)) ++ t130).size + 1 ≤ 9223372036854775807) = true := decide_eq_true c6
     try have c6b2 : (9223372036854775807 < ((((⟨#[116, 97, 115, 107, 32]⟩ : ByteArray) ++ a0_0) ++ (⟨#[32]⟩ : ByteArray)) ++ t130).size + 1) = False := eq_false (Nat.not_lt.2 c6)
     (try (have c6b7 := c6b2; simp only [ByteArray.size_append, show (⟨#[116, 97, 115, 107, 32]⟩ : ByteArray).size = 5 from rfl, show (⟨#[32]⟩ : ByteArray).size = 1 from rfl] at c6b7))
     replace H := Option.bind_eq_some_iff.mp H
     obtain ⟨t131, A70, H⟩ := H
     replace H : (if (((((⟨#[116, 97, 115, 107, 32]⟩ : ByteArray) ++ a0_0) ++ (⟨#[32]⟩ : ByteArray)) ++ t130) ++ (⟨#[32]⟩ : ByteArray)).size + t131.size ≤ 9223372036854775807 then (if ((((((⟨#[116, 97, 115, 107, 32]⟩ : ByteArray) ++ a0_0) ++ (⟨#[32]⟩ : ByteArray)) ++ t130) ++ (⟨#[32]⟩ : ByteArray)) ++ t131).size + 1 ≤ 9223372036854775807 then ((pendulumref07_Number.f k a0_3).bind fun t132 => (if (((((((⟨#[116, 97, 115, 107, 32]⟩ : ByteArray) ++ a0_0) ++ (⟨#[32]⟩ : ByteArray)) ++ t130) ++ (⟨#[32]⟩ : ByteArray)) ++ t131) ++ (⟨#[32]⟩ : ByteArray)).size + t132.size ≤ 9223372036854775807 then (if ((((((((⟨#[116, 97, 115, 107, 32]⟩ : ByteArray) ++ a0_0) ++ (⟨#[32]⟩ : ByteArray)) ++ t130) ++ (⟨#[32]⟩ : ByteArray)) ++ t131) ++ (⟨#[32]⟩ : ByteArray)) ++ t132).size + 1 ≤ 9223372036854775807 then ((pendulumref07_Mode.f a0_9).bind fun t133 => (if (((((((((⟨#[116, 97, 115, 107, 32]⟩ : ByteArray) ++ a0_0) ++ (⟨#[32]⟩ : ByteArray)) ++ t130) ++ (⟨#[32]⟩ : ByteArray)) ++ t131) ++ (⟨#[32]⟩ : ByteArray)) ++ t132) ++ (⟨#[32]⟩ : ByteArray)).size + t133.size ≤ 9223372036854775807 then (if ((((((((((⟨#[116, 97, 115, 107, 32]⟩ : ByteArray) ++ a0_0) ++ (⟨#[32]⟩ : ByteArray)) ++ t130) ++ (⟨#[32]⟩ : ByteArray)) ++ t131) ++ (⟨#[32]⟩ : ByteArray)) ++ t132) ++ (⟨#[32]⟩ : ByteArray)) ++ t133).size + 1 ≤ 9223372036854775807 then ((pendulumref07_Number.f k a0_4).bind fun t134 => (if (((((((((((⟨#[116, 97, 115, 107, 32]⟩ : ByteArray) ++ a0_0) ++ (⟨#[32]⟩ : ByteArray)) ++ t130) ++ (⟨#[32]⟩ : ByteArray)) ++ t131) ++ (⟨#[32]⟩ : ByteArray)) ++ t132) ++ (⟨#[32]⟩ : ByteArray)) ++ t133) ++ (⟨#[32]⟩ : ByteArray)).size + t134.size ≤ 9223372036854775807 then (if ((((((((((((⟨#[116, 97, 115, 107, 32]⟩ : ByteArray) ++ a0_0) ++ (⟨#[32]⟩ : ByteArray)) ++ t130) ++ (⟨#[32]⟩ : ByteArray)) ++ t131) ++ (⟨#[32]⟩ : ByteArray)) ++ t132) ++ (⟨#[32]⟩ : ByteArray)) ++ t133) ++ (⟨#[32]⟩ : ByteArray)) ++ t134).size + 1 ≤ 9223372036854775807 then ((pendulumref07_Number.f k a0_5).bind fun t135 => (if (((((((((((((⟨#[116, 97, 115, 107, 32]⟩ : ByteArray) ++ a0_0) ++ (⟨#[32]⟩ : ByteArray)) ++ t130) ++ (⟨#[32]⟩ : ByteArray)) ++ t131) ++ (⟨#[32]⟩ : ByteArray)) ++ t132) ++ (⟨#[32]⟩ : ByteArray)) ++ t133) ++ (⟨#[32]⟩ : ByteArray)) ++ t134) ++ (⟨#[32]⟩ : ByteArray)).size + t135.size ≤ 9223372036854775807 then (if ((((((((((((((⟨#[116, 97, 115, 107, 32]⟩ : ByteArray) ++ a0_0) ++ (⟨#[32]⟩ : ByteArray)) ++ t130) ++ (⟨#[32]⟩ : ByteArray)) ++ t131) ++ (⟨#[32]⟩ : ByteArray)) ++ t132) ++ (⟨#[32]⟩ : ByteArray)) ++ t133) ++ (⟨#[32]⟩ : ByteArray)) ++ t134) ++ (⟨#[32]⟩ : ByteArray)) ++ t135).size + 1 ≤ 9223372036854775807 then ((pendulumref07_Number.f k a0_6).bind fun t136 => (if (((((((((((((((⟨#[116, 97, 115, 107, 32]⟩ : ByteArray) ++ a0_0) ++ (⟨#[32]⟩ : ByteArray)) ++ t130) ++ (⟨#[32]⟩ : ByteArray)) ++ t131) ++ (⟨#[32]⟩ : ByteArray)) ++ t132) ++ (⟨#[32]⟩ : ByteArray)) ++ t133) ++ (⟨#[32]⟩ : ByteArray)) ++ t134) ++ (⟨#[32]⟩ : ByteArray)) ++ t135) ++ (⟨#[32]⟩ : ByteArray)).size + t136.size ≤ 9223372036854775807 then (if ((((((((((((((((⟨#[116, 97, 115, 107, 32]⟩ : ByteArray) ++ a0_0) ++ (⟨#[32]⟩ : ByteArray)) ++ t130) ++ (⟨#[32]⟩ : ByteArray)) ++ t131) ++ (⟨#[32]⟩ : ByteArray)) ++ t132) ++ (⟨#[32]⟩ : ByteArray)) ++ t133) ++ (⟨#[32]⟩ : ByteArray)) ++ t134) ++ (⟨#[32]⟩ : ByteArray)) ++ t135) ++ (⟨#[32]⟩ : ByteArray)) ++ t136).size + 1 ≤ 9223372036854775807 then ((pendulumref07_Number.f k a0_7).bind fun t137 => (if (((((((((((((((((⟨#[116, 97, 115, 107, 32]⟩ : ByteArray) ++ a0_0) ++ (⟨#[32]⟩ : ByteArray)) ++ t130) ++ (⟨#[32]⟩ : ByteArray)) ++ t131) ++ (⟨#[32]⟩ : ByteArray)) ++ t132) ++ (⟨#[32]⟩ : ByteArray)) ++ t133) ++ (⟨#[32]⟩ : ByteArray)) ++ t134) ++ (⟨#[32]⟩ : ByteArray)) ++ t135) ++ (⟨#[32]⟩ : ByteArray)) ++ t136) ++ (⟨#[32]⟩ : ByteArray)).size + t137.size ≤ 9223372036854775807 then (if ((((((((((((((((((⟨#[116, 97, 115, 107, 32]⟩ : ByteArray) ++ a0_0) ++ (⟨#[32]⟩ : ByteArray)) ++ t130) ++ (⟨#[32]⟩ : ByteArray)) ++ t131) ++ (⟨#[32]⟩ : ByteArray)) ++ t132) ++ (⟨#[32]⟩ : ByteArray)) ++ t133) ++ (⟨#[32]⟩ : ByteArray)) ++ t134) ++ (⟨#[32]⟩ : ByteArray)) ++ t135) ++ (⟨#[32]⟩ : ByteArray)) ++ t136) ++ (⟨#[32]⟩ : ByteArray)) ++ t137).size + 1 ≤ 9223372036854775807 then ((pendulumref07_Number.f k a0_8).bind fun t138 => (if (((((((((((((((((((⟨#[116, 97, 115, 107, 32]⟩ : ByteArray) ++ a0_0) ++ (⟨#[32]⟩ : ByteArray)) ++ t130) ++ (⟨#[32]⟩ : ByteArray)) ++ t131) ++ (⟨#[32]⟩ : ByteArray)) ++ t132) ++ (⟨#[32]⟩ : ByteArray)) ++ t133) ++ (⟨#[32]⟩ : ByteArray)) ++ t134) ++ (⟨#[32]⟩ : ByteArray)) ++ t135) ++ (⟨#[32]⟩ : ByteArray)) ++ t136) ++ (⟨#[32]⟩ : ByteArray)) ++ t137) ++ (⟨#[32]⟩ : ByteArray)).size + t138.size ≤ 9223372036854775807 then (if ((((((((((((((((((((⟨#[116, 97, 115, 107, 32]⟩ : ByteArray) ++ a0_0) ++ (⟨#[32]⟩ : ByteArray)) ++ t130) ++ (⟨#[32]⟩ : ByteArray)) ++ t131) ++ (⟨#[32]⟩ : ByteArray)) ++ t132) ++ (⟨#[32]⟩ : ByteArray)) ++ t133) ++ (⟨#[32]⟩ : ByteArray)) ++ t134) ++ (⟨#[32]⟩ : ByteArray)) ++ t135) ++ (⟨#[32]⟩ : ByteArray)) ++ t136) ++ (⟨#[32]⟩ : ByteArray)) ++ t137) ++ (⟨#[32]⟩ : ByteArray)) ++ t138).size + 1 ≤ 9223372036854775807 then ((pendulumref07_Number.f k a0_10).bind fun t139 => (if (((((((((((((((((((((⟨#[116, 97, 115, 107, 32]⟩ : ByteArray) ++ a0_0) ++ (⟨#[32]⟩ : ByteArray)) ++ t130) ++ (⟨#[32]⟩ : ByteArray)) ++ t131) ++ (⟨#[32]⟩ : ByteArray)) ++ t132) ++ (⟨#[32]⟩ : ByteArray)) ++ t133) ++ (⟨#[32]⟩ : ByteArray)) ++ t134) ++ (⟨#[32]⟩ : ByteArray)) ++ t135) ++ (⟨#[32]⟩ : ByteArray)) ++ t136) ++ (⟨#[32]⟩ : ByteArray)) ++ t137) ++ (⟨#[32]⟩ : ByteArray)) ++ t138) ++ (⟨#[32]⟩ : ByteArray)).size + t139.size ≤ 9223372036854775807 then (some ((((((((((((((((((((((⟨#[116, 97, 115, 107, 32]⟩ : ByteArray) ++ a0_0) ++ (⟨#[32]⟩ : ByteArray)) ++ t130) ++ (⟨#[32]⟩ : ByteArray)) ++ t131) ++ (⟨#[32]⟩ : ByteArray)) ++ t132) ++ (⟨#[32]⟩ : ByteArray)) ++ t133) ++ (⟨#[32]⟩ : ByteArray)) ++ t134) ++ (⟨#[32]⟩ : ByteArray)) ++ t135) ++ (⟨#[32]⟩ : ByteArray)) ++ t136) ++ (⟨#[32]⟩ : ByteArray)) ++ t137) ++ (⟨#[32]⟩ : ByteArray)) ++ t138) ++ (⟨#[32]⟩ : ByteArray)) ++ t139)) else (none))) else (none)) else (none))) else (none)) else (none))) else (none)) else (none))) else (none)) else (none))) else (none)) else (none))) else (none)) else (none))) else (none)) else (none))) else (none)) else (none)) = some r := H
     have A7 := Aside0.mk A70
     clear A70
     by_cases c8 : (((((⟨#[116, 97, 115, 107, 32]⟩ : ByteArray) ++ a0_0) ++ (⟨#[32]⟩ : ByteArray)) ++ t130) ++ (⟨#[32]⟩ : ByteArray)).size + t131.size ≤ 9223372036854775807
     ·rw [if_pos c8] at H
      have c8b0 := eq_true c8
      have c8b1 : decide ((((((⟨#[116, 97, 115, 107, 32]⟩ : ByteArray) ++ a0_0) ++ (⟨#[32]⟩ : ByteArray)) ++ t130) ++ (⟨#[32]⟩ : ByteArray)).size + t131.size ≤ 9223372036854775807) = true := decide_eq_true c8
      try have c8b2 : (9223372036854775807 < (((((⟨#[116, 97, 115, 107, 32]⟩ : ByteArray) ++ a0_0) ++ (⟨#[32]⟩ : ByteArray)) ++ t130) ++ (⟨#[32]⟩ : ByteArray)).size + t131.size) = False := eq_false (Nat.not_lt.2 c8)
      (try (have c8b7 := c8b2; simp only [ByteArray.size_append, show (⟨#[116, 97, 115, 107, 32]⟩ : ByteArray).size = 5 from rfl, show (⟨#[32]⟩ : ByteArray).size = 1 from rfl] at c8b7))
      by_cases c9 : ((((((⟨#[116, 97, 115, 107, 32]⟩ : ByteArray) ++ a0_0) ++ (⟨#[32]⟩ : ByteArray)) ++ t130) ++ (⟨#[32]⟩ : ByteArray)) ++ t131).size + 1 ≤ 9223372036854775807
      ·rw [if_pos c9] at H
       have c9b0 := eq_true c9
       have c9b1 : decide (((((((⟨#[116, 97, 115, 107, 32]⟩ : ByteArray) ++ a0_0) ++ (⟨#[32]⟩ : ByteArray)) ++ t130) ++ (⟨#[32]⟩ : ByteArray)) ++ t131).size + 1 ≤ 9223372036854775807) = true := decide_eq_true c9
       try have c9b2 : (9223372036854775807 < ((((((⟨#[116, 97, 115, 107, 32]⟩ : ByteArray) ++ a0_0) ++ (⟨#[32]⟩ : ByteArray)) ++ t130) ++ (⟨#[32]⟩ : ByteArray)) ++ t131).size + 1) = False := eq_false (Nat.not_lt.2 c9)
       (try (have c9b7 := c9b2; simp only [ByteArray.size_append, show (⟨#[116, 97, 115, 107, 32]⟩ : ByteArray).size = 5 from rfl, show (⟨#[32]⟩ : ByteArray).size = 1 from rfl] at c9b7))
       replace H := Option.bind_eq_some_iff.mp H
       obtain ⟨t132, A100, H⟩ := H
       replace H : (if (((((((⟨#[116, 97, 115, 107, 32]⟩ : ByteArray) ++ a0_0) ++ (⟨#[32]⟩ : ByteArray)) ++ t130) ++ (⟨#[32]⟩ : ByteArray)) ++ t131) ++ (⟨#[32]⟩ : ByteArray)).size + t132.size ≤ 9223372036854775807 then (if ((((((((⟨#[116, 97, 115, 107, 32]⟩ : ByteArray) ++ a0_0) ++ (⟨#[32]⟩ : ByteArray)) ++ t130) ++ (⟨#[32]⟩ : ByteArray)) ++ t131) ++ (⟨#[32]⟩ : ByteArray)) ++ t132).size + 1 ≤ 9223372036854775807 then ((pendulumref07_Mode.f a0_9).bind fun t133 => (if (((((((((⟨#[116, 97, 115, 107, 32]⟩ : ByteArray) ++ a0_0) ++ (⟨#[32]⟩ : ByteArray)) ++ t130) ++ (⟨#[32]⟩ : ByteArray)) ++ t131) ++ (⟨#[32]⟩ : ByteArray)) ++ t132) ++ (⟨#[32]⟩ : ByteArray)).size + t133.size ≤ 9223372036854775807 then (if ((((((((((⟨#[116, 97, 115, 107, 32]⟩ : ByteArray) ++ a0_0) ++ (⟨#[32]⟩ : ByteArray)) ++ t130) ++ (⟨#[32]⟩ : ByteArray)) ++ t131) ++ (⟨#[32]⟩ : ByteArray)) ++ t132) ++ (⟨#[32]⟩ : ByteArray)) ++ t133).size + 1 ≤ 9223372036854775807 then ((pendulumref07_Number.f k a0_4).bind fun t134 => (if (((((((((((⟨#[116, 97, 115, 107, 32]⟩ : ByteArray) ++ a0_0) ++ (⟨#[32]⟩ : ByteArray)) ++ t130) ++ (⟨#[32]⟩ : ByteArray)) ++ t131) ++ (⟨#[32]⟩ : ByteArray)) ++ t132) ++ (⟨#[32]⟩ : ByteArray)) ++ t133) ++ (⟨#[32]⟩ : ByteArray)).size + t134.size ≤ 9223372036854775807 then (if ((((((((((((⟨#[116, 97, 115, 107, 32]⟩ : ByteArray) ++ a0_0) ++ (⟨#[32]⟩ : ByteArray)) ++ t130) ++ (⟨#[32]⟩ : ByteArray)) ++ t131) ++ (⟨#[32]⟩ : ByteArray)) ++ t132) ++ (⟨#[32]⟩ : ByteArray)) ++ t133) ++ (⟨#[32]⟩ : ByteArray)) ++ t134).size + 1 ≤ 9223372036854775807 then ((pendulumref07_Number.f k a0_5).bind fun t135 => (if (((((((((((((⟨#[116, 97, 115, 107, 32]⟩ : ByteArray) ++ a0_0) ++ (⟨#[32]⟩ : ByteArray)) ++ t130) ++ (⟨#[32]⟩ : ByteArray)) ++ t131) ++ (⟨#[32]⟩ : ByteArray)) ++ t132) ++ (⟨#[32]⟩ : ByteArray)) ++ t133) ++ (⟨#[32]⟩ : ByteArray)) ++ t134) ++ (⟨#[32]⟩ : ByteArray)).size + t135.size ≤ 9223372036854775807 then (if ((((((((((((((⟨#[116, 97, 115, 107, 32]⟩ : ByteArray) ++ a0_0) ++ (⟨#[32]⟩ : ByteArray)) ++ t130) ++ (⟨#[32]⟩ : ByteArray)) ++ t131) ++ (⟨#[32]⟩ : ByteArray)) ++ t132) ++ (⟨#[32]⟩ : ByteArray)) ++ t133) ++ (⟨#[32]⟩ : ByteArray)) ++ t134) ++ (⟨#[32]⟩ : ByteArray)) ++ t135).size + 1 ≤ 9223372036854775807 then ((pendulumref07_Number.f k a0_6).bind fun t136 => (if (((((((((((((((⟨#[116, 97, 115, 107, 32]⟩ : ByteArray) ++ a0_0) ++ (⟨#[32]⟩ : ByteArray)) ++ t130) ++ (⟨#[32]⟩ : ByteArray)) ++ t131) ++ (⟨#[32]⟩ : ByteArray)) ++ t132) ++ (⟨#[32]⟩ : ByteArray)) ++ t133) ++ (⟨#[32]⟩ : ByteArray)) ++ t134) ++ (⟨#[32]⟩ : ByteArray)) ++ t135) ++ (⟨#[32]⟩ : ByteArray)).size + t136.size ≤ 9223372036854775807 then (if ((((((((((((((((⟨#[116, 97, 115, 107, 32]⟩ : ByteArray) ++ a0_0) ++ (⟨#[32]⟩ : ByteArray)) ++ t130) ++ (⟨#[32]⟩ : ByteArray)) ++ t131) ++ (⟨#[32]⟩ : ByteArray)) ++ t132) ++ (⟨#[32]⟩ : ByteArray)) ++ t133) ++ (⟨#[32]⟩ : ByteArray)) ++ t134) ++ (⟨#[32]⟩ : ByteArray)) ++ t135) ++ (⟨#[32]⟩ : ByteArray)) ++ t136).size + 1 ≤ 9223372036854775807 then ((pendulumref07_Number.f k a0_7).bind fun t137 => (if (((((((((((((((((⟨#[116, 97, 115, 107, 32]⟩ : ByteArray) ++ a0_0) ++ (⟨#[32]⟩ : ByteArray)) ++ t130) ++ (⟨#[32]⟩ : ByteArray)) ++ t131) ++ (⟨#[32]⟩ : ByteArray)) ++ t132) ++ (⟨#[32]⟩ : ByteArray)) ++ t133) ++ (⟨#[32]⟩ : ByteArray)) ++ t134) ++ (⟨#[32]⟩ : ByteArray)) ++ t135) ++ (⟨#[32]⟩ : ByteArray)) ++ t136) ++ (⟨#[32]⟩ : ByteArray)).size + t137.size ≤ 9223372036854775807 then (if ((((((((((((((((((⟨#[116, 97, 115, 107, 32]⟩ : ByteArray) ++ a0_0) ++ (⟨#[32]⟩ : ByteArray)) ++ t130) ++ (⟨#[32]⟩ : ByteArray)) ++ t131) ++ (⟨#[32]⟩ : ByteArray)) ++ t132) ++ (⟨#[32]⟩ : ByteArray)) ++ t133) ++ (⟨#[32]⟩ : ByteArray)) ++ t134) ++ (⟨#[32]⟩ : ByteArray)) ++ t135) ++ (⟨#[32]⟩ : ByteArray)) ++ t136) ++ (⟨#[32]⟩ : ByteArray)) ++ t137).size + 1 ≤ 9223372036854775807 then ((pendulumref07_Number.f k a0_8).bind fun t138 => (if (((((((((((((((((((⟨#[116, 97, 115, 107, 32]⟩ : ByteArray) ++ a0_0) ++ (⟨#[32]⟩ : ByteArray)) ++ t130) ++ (⟨#[32]⟩ : ByteArray)) ++ t131) ++ (⟨#[32]⟩ : ByteArray)) ++ t132) ++ (⟨#[32]⟩ : ByteArray)) ++ t133) ++ (⟨#[32]⟩ : ByteArray)) ++ t134) ++ (⟨#[32]⟩ : ByteArray)) ++ t135) ++ (⟨#[32]⟩ : ByteArray)) ++ t136) ++ (⟨#[32]⟩ : ByteArray)) ++ t137) ++ (⟨#[32]⟩ : ByteArray)).size + t138.size ≤ 9223372036854775807 then (if ((((((((((((((((((((⟨#[116, 97, 115, 107, 32]⟩ : ByteArray) ++ a0_0) ++ (⟨#[32]⟩ : ByteArray)) ++ t130) ++ (⟨#[32]⟩ : ByteArray)) ++ t131) ++ (⟨#[32]⟩ : ByteArray)) ++ t132) ++ (⟨#[32]⟩ : ByteArray)) ++ t133) ++ (⟨#[32]⟩ : ByteArray)) ++ t134) ++ (⟨#[32]⟩ : ByteArray)) ++ t135) ++ (⟨#[32]⟩ : ByteArray)) ++ t136) ++ (⟨#[32]⟩ : ByteArray)) ++ t137) ++ (⟨#[32]⟩ : ByteArray)) ++ t138).size + 1 ≤ 9223372036854775807 then ((pendulumref07_Number.f k a0_10).bind fun t139 => (if (((((((((((((((((((((⟨#[116, 97, 115, 107, 32]⟩ : ByteArray) ++ a0_0) ++ (⟨#[32]⟩ : ByteArray)) ++ t130) ++ (⟨#[32]⟩ : ByteArray)) ++ t131) ++ (⟨#[32]⟩ : ByteArray)) ++ t132) ++ (⟨#[32]⟩ : ByteArray)) ++ t133) ++ (⟨#[32]⟩ : ByteArray)) ++ t134) ++ (⟨#[32]⟩ : ByteArray)) ++ t135) ++ (⟨#[32]⟩ : ByteArray)) ++ t136) ++ (⟨#[32]⟩ : ByteArray)) ++ t137) ++ (⟨#[32]⟩ : ByteArray)) ++ t138) ++ (⟨#[32]⟩ : ByteArray)).size + t139.size ≤ 9223372036854775807 then (some ((((((((((((((((((((((⟨#[116, 97, 115, 107, 32]⟩ : ByteArray) ++ a0_0) ++ (⟨#[32]⟩ : ByteArray)) ++ t130) ++ (⟨#[32]⟩ : ByteArray)) ++ t131) ++ (⟨#[32]⟩ : ByteArray)) ++ t132) ++ (⟨#[32]⟩ : ByteArray)) ++ t133) ++ (⟨#[32]⟩ : ByteArray)) ++ t134) ++ (⟨#[32]⟩ : ByteArray)) ++ t135) ++ (⟨#[32]⟩ : ByteArray)) ++ t136) ++ (⟨#[32]⟩ : ByteArray)) ++ t137) ++ (⟨#[32]⟩ : ByteArray)) ++ t138) ++ (⟨#[32]⟩ : ByteArray)) ++ t139)) else (none))) else (none)) else (none))) else (none)) else (none))) else (none)) else (none))) else (none)) else (none))) else (none)) else (none))) else (none)) else (none))) else (none)) else (none)) = some r := H
       have A10 := Aside0.mk A100
       clear A100
       by_cases c11 : (((((((⟨#[116, 97, 115, 107, 32]⟩ : ByteArray) ++ a0_0) ++ (⟨#[32]⟩ : ByteArray)) ++ t130) ++ (⟨#[32]⟩ : ByteArray)) ++ t131) ++ (⟨#[32]⟩ : ByteArray)).size + t132.size ≤ 9223372036854775807
       ·rw [if_pos c11] at H
        have c11b0 := eq_true c11
        have c11b1 : decide ((((((((⟨#[116, 97, 115, 107, 32]⟩ : ByteArray) ++ a0_0) ++ (⟨#[32]⟩ : ByteArray)) ++ t130) ++ (⟨#[32]⟩ : ByteArray)) ++ t131) ++ (⟨#[32]⟩ : ByteArray)).size + t132.size ≤ 9223372036854775807) = true := decide_eq_true c11
        try have c11b2 : (9223372036854775807 < (((((((⟨#[116, 97, 115, 107, 32]⟩ : ByteArray) ++ a0_0) ++ (⟨#[32]⟩ : ByteArray)) ++ t130) ++ (⟨#[32]⟩ : ByteArray)) ++ t131) ++ (⟨#[32]⟩ : ByteArray)).size + t132.size) = False := eq_false (Nat.not_lt.2 c11)
        (try (have c11b7 := c11b2; simp only [ByteArray.size_append, show (⟨#[116, 97, 115, 107, 32]⟩ : ByteArray).size = 5 from rfl, show (⟨#[32]⟩ : ByteArray).size = 1 from rfl] at c11b7))
        by_cases c12 : ((((((((⟨#[116, 97, 115, 107, 32]⟩ : ByteArray) ++ a0_0) ++ (⟨#[32]⟩ : ByteArray)) ++ t130) ++ (⟨#[32]⟩ : ByteArray)) ++ t131) ++ (⟨#[32]⟩ : ByteArray)) ++ t132).size + 1 ≤ 9223372036854775807
        ·rw [if_pos c12] at H
         have c12b0 := eq_true c12
         have c12b1 : decide (((((((((⟨#[116, 97, 115, 107, 32]⟩ : ByteArray) ++ a0_0) ++ (⟨#[32]⟩ : ByteArray)) ++ t130) ++ (⟨#[32]⟩ : ByteArray)) ++ t131) ++ (⟨#[32]⟩ : ByteArray)) ++ t132).size + 1 ≤ 9223372036854775807) = true := decide_eq_true c12
         try have c12b2 : (9223372036854775807 < ((((((((⟨#[116, 97, 115, 107, 32]⟩ : ByteArray) ++ a0_0) ++ (⟨#[32]⟩ : ByteArray)) ++ t130) ++ (⟨#[32]⟩ : ByteArray)) ++ t131) ++ (⟨#[32]⟩ : ByteArray)) ++ t132).size + 1) = False := eq_false (Nat.not_lt.2 c12)
         (try (have c12b7 := c12b2; simp only [ByteArray.size_append, show (⟨#[116, 97, 115, 107, 32]⟩ : ByteArray).size = 5 from rfl, show (⟨#[32]⟩ : ByteArray).size = 1 from rfl] at c12b7))
         replace H := Option.bind_eq_some_iff.mp H
         obtain ⟨t133, A130, H⟩ := H
         replace H : (if (((((((((⟨#[116, 97, 115, 107, 32]⟩ : ByteArray) ++ a0_0) ++ (⟨#[32]⟩ : ByteArray)) ++ t130) ++ (⟨#[32]⟩ : ByteArray)) ++ t131) ++ (⟨#[32]⟩ : ByteArray)) ++ t132) ++ (⟨#[32]⟩ : ByteArray)).size + t133.size ≤ 9223372036854775807 then (if ((((((((((⟨#[116, 97, 115, 107, 32]⟩ : ByteArray) ++ a0_0) ++ (⟨#[32]⟩ : ByteArray)) ++ t130) ++ (⟨#[32]⟩ : ByteArray)) ++ t131) ++ (⟨#[32]⟩ : ByteArray)) ++ t132) ++ (⟨#[32]⟩ : ByteArray)) ++ t133).size + 1 ≤ 9223372036854775807 then ((pendulumref07_Number.f k a0_4).bind fun t134 => (if (((((((((((⟨#[116, 97, 115, 107, 32]⟩ : ByteArray) ++ a0_0) ++ (⟨#[32]⟩ : ByteArray)) ++ t130) ++ (⟨#[32]⟩ : ByteArray)) ++ t131) ++ (⟨#[32]⟩ : ByteArray)) ++ t132) ++ (⟨#[32]⟩ : ByteArray)) ++ t133) ++ (⟨#[32]⟩ : ByteArray)).size + t134.size ≤ 9223372036854775807 then (if ((((((((((((⟨#[116, 97, 115, 107, 32]⟩ : ByteArray) ++ a0_0) ++ (⟨#[32]⟩ : ByteArray)) ++ t130) ++ (⟨#[32]⟩ : ByteArray)) ++ t131) ++ (⟨#[32]⟩ : ByteArray)) ++ t132) ++ (⟨#[32]⟩ : ByteArray)) ++ t133) ++ (⟨#[32]⟩ : ByteArray)) ++ t134).size + 1 ≤ 9223372036854775807 then ((pendulumref07_Number.f k a0_5).bind fun t135 => (if (((((((((((((⟨#[116, 97, 115, 107, 32]⟩ : ByteArray) ++ a0_0) ++ (⟨#[32]⟩ : ByteArray)) ++ t130) ++ (⟨#[32]⟩ : ByteArray)) ++ t131) ++ (⟨#[32]⟩ : ByteArray)) ++ t132) ++ (⟨#[32]⟩ : ByteArray)) ++ t133) ++ (⟨#[32]⟩ : ByteArray)) ++ t134) ++ (⟨#[32]⟩ : ByteArray)).size + t135.size ≤ 9223372036854775807 then (if ((((((((((((((⟨#[116, 97, 115, 107, 32]⟩ : ByteArray) ++ a0_0) ++ (⟨#[32]⟩ : ByteArray)) ++ t130) ++ (⟨#[32]⟩ : ByteArray)) ++ t131) ++ (⟨#[32]⟩ : ByteArray)) ++ t132) ++ (⟨#[32]⟩ : ByteArray)) ++ t133) ++ (⟨#[32]⟩ : ByteArray)) ++ t134) ++ (⟨#[32]⟩ : ByteArray)) ++ t135).size + 1 ≤ 9223372036854775807 then ((pendulumref07_Number.f k a0_6).bind fun t136 => (if (((((((((((((((⟨#[116, 97, 115, 107, 32]⟩ : ByteArray) ++ a0_0) ++ (⟨#[32]⟩ : ByteArray)) ++ t130) ++ (⟨#[32]⟩ : ByteArray)) ++ t131) ++ (⟨#[32]⟩ : ByteArray)) ++ t132) ++ (⟨#[32]⟩ : ByteArray)) ++ t133) ++ (⟨#[32]⟩ : ByteArray)) ++ t134) ++ (⟨#[32]⟩ : ByteArray)) ++ t135) ++ (⟨#[32]⟩ : ByteArray)).size + t136.size ≤ 9223372036854775807 then (if ((((((((((((((((⟨#[116, 97, 115, 107, 32]⟩ : ByteArray) ++ a0_0) ++ (⟨#[32]⟩ : ByteArray)) ++ t130) ++ (⟨#[32]⟩ : ByteArray)) ++ t131) ++ (⟨#[32]⟩ : ByteArray)) ++ t132) ++ (⟨#[32]⟩ : ByteArray)) ++ t133) ++ (⟨#[32]⟩ : ByteArray)) ++ t134) ++ (⟨#[32]⟩ : ByteArray)) ++ t135) ++ (⟨#[32]⟩ : ByteArray)) ++ t136).size + 1 ≤ 9223372036854775807 then ((pendulumref07_Number.f k a0_7).bind fun t137 => (if (((((((((((((((((⟨#[116, 97, 115, 107, 32]⟩ : ByteArray) ++ a0_0) ++ (⟨#[32]⟩ : ByteArray)) ++ t130) ++ (⟨#[32]⟩ : ByteArray)) ++ t131) ++ (⟨#[32]⟩ : ByteArray)) ++ t132) ++ (⟨#[32]⟩ : ByteArray)) ++ t133) ++ (⟨#[32]⟩ : ByteArray)) ++ t134) ++ (⟨#[32]⟩ : ByteArray)) ++ t135) ++ (⟨#[32]⟩ : ByteArray)) ++ t136) ++ (⟨#[32]⟩ : ByteArray)).size + t137.size ≤ 9223372036854775807 then (if ((((((((((((((((((⟨#[116, 97, 115, 107, 32]⟩ : ByteArray) ++ a0_0) ++ (⟨#[32]⟩ : ByteArray)) ++ t130) ++ (⟨#[32]⟩ : ByteArray)) ++ t131) ++ (⟨#[32]⟩ : ByteArray)) ++ t132) ++ (⟨#[32]⟩ : ByteArray)) ++ t133) ++ (⟨#[32]⟩ : ByteArray)) ++ t134) ++ (⟨#[32]⟩ : ByteArray)) ++ t135) ++ (⟨#[32]⟩ : ByteArray)) ++ t136) ++ (⟨#[32]⟩ : ByteArray)) ++ t137).size + 1 ≤ 9223372036854775807 then ((pendulumref07_Number.f k a0_8).bind fun t138 => (if (((((((((((((((((((⟨#[116, 97, 115, 107, 32]⟩ : ByteArray) ++ a0_0) ++ (⟨#[32]⟩ : ByteArray)) ++ t130) ++ (⟨#[32]⟩ : ByteArray)) ++ t131) ++ (⟨#[32]⟩ : ByteArray)) ++ t132) ++ (⟨#[32]⟩ : ByteArray)) ++ t133) ++ (⟨#[32]⟩ : ByteArray)) ++ t134) ++ (⟨#[32]⟩ : ByteArray)) ++ t135) ++ (⟨#[32]⟩ : ByteArray)) ++ t136) ++ (⟨#[32]⟩ : ByteArray)) ++ t137) ++ (⟨#[32]⟩ : ByteArray)).size + t138.size ≤ 9223372036854775807 then (if ((((((((((((((((((((⟨#[116, 97, 115, 107, 32]⟩ : ByteArray) ++ a0_0) ++ (⟨#[32]⟩ : ByteArray)) ++ t130) ++ (⟨#[32]⟩ : ByteArray)) ++ t131) ++ (⟨#[32]⟩ : ByteArray)) ++ t132) ++ (⟨#[32]⟩ : ByteArray)) ++ t133) ++ (⟨#[32]⟩ : ByteArray)) ++ t134) ++ (⟨#[32]⟩ : ByteArray)) ++ t135) ++ (⟨#[32]⟩ : ByteArray)) ++ t136) ++ (⟨#[32]⟩ : ByteArray)) ++ t137) ++ (⟨#[32]⟩ : ByteArray)) ++ t138).size + 1 ≤ 9223372036854775807 then ((pendulumref07_Number.f k a0_10).bind fun t139 => (if (((((((((((((((((((((⟨#[116, 97, 115, 107, 32]⟩ : ByteArray) ++ a0_0) ++ (⟨#[32]⟩ : ByteArray)) ++ t130) ++ (⟨#[32]⟩ : ByteArray)) ++ t131) ++ (⟨#[32]⟩ : ByteArray)) ++ t132) ++ (⟨#[32]⟩ : ByteArray)) ++ t133) ++ (⟨#[32]⟩ : ByteArray)) ++ t134) ++ (⟨#[32]⟩ : ByteArray)) ++ t135) ++ (⟨#[32]⟩ : ByteArray)) ++ t136) ++ (⟨#[32]⟩ : ByteArray)) ++ t137) ++ (⟨#[32]⟩ : ByteArray)) ++ t138) ++ (⟨#[32]⟩ : ByteArray)).size + t139.size ≤ 9223372036854775807 then (some ((((((((((((((((((((((⟨#[116, 97, 115, 107, 32]⟩ : ByteArray) ++ a0_0) ++ (⟨#[32]⟩ : ByteArray)) ++ t130) ++ (⟨#[32]⟩ : ByteArray)) ++ t131) ++ (⟨#[32]⟩ : ByteArray)) ++ t132) ++ (⟨#[32]⟩ : ByteArray)) ++ t133) ++ (⟨#[32]⟩ : ByteArray)) ++ t134) ++ (⟨#[32]⟩ : ByteArray)) ++ t135) ++ (⟨#[32]⟩ : ByteArray)) ++ t136) ++ (⟨#[32]⟩ : ByteArray)) ++ t137) ++ (⟨#[32]⟩ : ByteArray)) ++ t138) ++ (⟨#[32]⟩ : ByteArray)) ++ t139)) else (none))) else (none)) else (none))) else (none)) else (none))) else (none)) else (none))) else (none)) else (none))) else (none)) else (none))) else (none)) else (none)) = some r := H
         have A13 := Aside0.mk A130
         clear A130
         by_cases c14 : (((((((((⟨#[116, 97, 115, 107, 32]⟩ : ByteArray) ++ a0_0) ++ (⟨#[32]⟩ : ByteArray)) ++ t130) ++ (⟨#[32]⟩ : ByteArray)) ++ t131) ++ (⟨#[32]⟩ : ByteArray)) ++ t132) ++ (⟨#[32]⟩ : ByteArray)).size + t133.size ≤ 9223372036854775807
         ·rw [if_pos c14] at H
          have c14b0 := eq_true c14
          have c14b1 : decide ((((((((((⟨#[116, 97, 115, 107, 32]⟩ : ByteArray) ++ a0_0) ++ (⟨#[32]⟩ : ByteArray)) ++ t130) ++ (⟨#[32]⟩ : ByteArray)) ++ t131) ++ (⟨#[32]⟩ : ByteArray)) ++ t132) ++ (⟨#[32]⟩ : ByteArray)).size + t133.size ≤ 9223372036854775807) = true := decide_eq_true c14
          try have c14b2 : (9223372036854775807 < (((((((((⟨#[116, 97, 115, 107, 32]⟩ : ByteArray) ++ a0_0) ++ (⟨#[32]⟩ : ByteArray)) ++ t130) ++ (⟨#[32]⟩ : ByteArray)) ++ t131) ++ (⟨#[32]⟩ : ByteArray)) ++ t132) ++ (⟨#[32]⟩ : ByteArray)).size + t133.size) = False := eq_false (Nat.not_lt.2 c14)
          (try (have c14b7 := c14b2; simp only [ByteArray.size_append, show (⟨#[116, 97, 115, 107, 32]⟩ : ByteArray).size = 5 from rfl, show (⟨#[32]⟩ : ByteArray).size = 1 from rfl] at c14b7))
          by_cases c15 : ((((((((((⟨#[116, 97, 115, 107, 32]⟩ : ByteArray) ++ a0_0) ++ (⟨#[32]⟩ : ByteArray)) ++ t130) ++ (⟨#[32]⟩ : ByteArray)) ++ t131) ++ (⟨#[32]⟩ : ByteArray)) ++ t132) ++ (⟨#[32]⟩ : ByteArray)) ++ t133).size + 1 ≤ 9223372036854775807
          ·rw [if_pos c15] at H
           have c15b0 := eq_true c15
           have c15b1 : decide (((((((((((⟨#[116, 97, 115, 107, 32]⟩ : ByteArray) ++ a0_0) ++ (⟨#[32]⟩ : ByteArray)) ++ t130) ++ (⟨#[32]⟩ : ByteArray)) ++ t131) ++ (⟨#[32]⟩ : ByteArray)) ++ t132) ++ (⟨#[32]⟩ : ByteArray)) ++ t133).size + 1 ≤ 9223372036854775807) = true := decide_eq_true c15
           try have c15b2 : (9223372036854775807 < ((((((((((⟨#[116, 97, 115, 107, 32]⟩ : ByteArray) ++ a0_0) ++ (⟨#[32]⟩ : ByteArray)) ++ t130) ++ (⟨#[32]⟩ : ByteArray)) ++ t131) ++ (⟨#[32]⟩ : ByteArray)) ++ t132) ++ (⟨#[32]⟩ : ByteArray)) ++ t133).size + 1) = False := eq_false (Nat.not_lt.2 c15)
           (try (have c15b7 := c15b2; simp only [ByteArray.size_append, show (⟨#[116, 97, 115, 107, 32]⟩ : ByteArray).size = 5 from rfl, show (⟨#[32]⟩ : ByteArray).size = 1 from rfl] at c15b7))
           replace H := Option.bind_eq_some_iff.mp H
           obtain ⟨t134, A160, H⟩ := H
           replace H : (if (((((((((((⟨#[116, 97, 115, 107, 32]⟩ : ByteArray) ++ a0_0) ++ (⟨#[32]⟩ : ByteArray)) ++ t130) ++ (⟨#[32]⟩ : ByteArray)) ++ t131) ++ (⟨#[32]⟩ : ByteArray)) ++ t132) ++ (⟨#[32]⟩ : ByteArray)) ++ t133) ++ (⟨#[32]⟩ : ByteArray)).size + t134.size ≤ 9223372036854775807 then (if ((((((((((((⟨#[116, 97, 115, 107, 32]⟩ : ByteArray) ++ a0_0) ++ (⟨#[32]⟩ : ByteArray)) ++ t130) ++ (⟨#[32]⟩ : ByteArray)) ++ t131) ++ (⟨#[32]⟩ : ByteArray)) ++ t132) ++ (⟨#[32]⟩ : ByteArray)) ++ t133) ++ (⟨#[32]⟩ : ByteArray)) ++ t134).size + 1 ≤ 9223372036854775807 then ((pendulumref07_Number.f k a0_5).bind fun t135 => (if (((((((((((((⟨#[116, 97, 115, 107, 32]⟩ : ByteArray) ++ a0_0) ++ (⟨#[32]⟩ : ByteArray)) ++ t130) ++ (⟨#[32]⟩ : ByteArray)) ++ t131) ++ (⟨#[32]⟩ : ByteArray)) ++ t132) ++ (⟨#[32]⟩ : ByteArray)) ++ t133) ++ (⟨#[32]⟩ : ByteArray)) ++ t134) ++ (⟨#[32]⟩ : ByteArray)).size + t135.size ≤ 9223372036854775807 then (if ((((((((((((((⟨#[116, 97, 115, 107, 32]⟩ : ByteArray) ++ a0_0) ++ (⟨#[32]⟩ : ByteArray)) ++ t130) ++ (⟨#[32]⟩ : ByteArray)) ++ t131) ++ (⟨#[32]⟩ : ByteArray)) ++ t132) ++ (⟨#[32]⟩ : ByteArray)) ++ t133) ++ (⟨#[32]⟩ : ByteArray)) ++ t134) ++ (⟨#[32]⟩ : ByteArray)) ++ t135).size + 1 ≤ 9223372036854775807 then ((pendulumref07_Number.f k a0_6).bind fun t136 => (if (((((((((((((((⟨#[116, 97, 115, 107, 32]⟩ : ByteArray) ++ a0_0) ++ (⟨#[32]⟩ : ByteArray)) ++ t130) ++ (⟨#[32]⟩ : ByteArray)) ++ t131) ++ (⟨#[32]⟩ : ByteArray)) ++ t132) ++ (⟨#[32]⟩ : ByteArray)) ++ t133) ++ (⟨#[32]⟩ : ByteArray)) ++ t134) ++ (⟨#[32]⟩ : ByteArray)) ++ t135) ++ (⟨#[32]⟩ : ByteArray)).size + t136.size ≤ 9223372036854775807 then (if ((((((((((((((((⟨#[116, 97, 115, 107, 32]⟩ : ByteArray) ++ a0_0) ++ (⟨#[32]⟩ : ByteArray)) ++ t130) ++ (⟨#[32]⟩ : ByteArray)) ++ t131) ++ (⟨#[32]⟩ : ByteArray)) ++ t132) ++ (⟨#[32]⟩ : ByteArray)) ++ t133) ++ (⟨#[32]⟩ : ByteArray)) ++ t134) ++ (⟨#[32]⟩ : ByteArray)) ++ t135) ++ (⟨#[32]⟩ : ByteArray)) ++ t136).size + 1 ≤ 9223372036854775807 then ((pendulumref07_Number.f k a0_7).bind fun t137 => (if (((((((((((((((((⟨#[116, 97, 115, 107, 32]⟩ : ByteArray) ++ a0_0) ++ (⟨#[32]⟩ : ByteArray)) ++ t130) ++ (⟨#[32]⟩ : ByteArray)) ++ t131) ++ (⟨#[32]⟩ : ByteArray)) ++ t132) ++ (⟨#[32]⟩ : ByteArray)) ++ t133) ++ (⟨#[32]⟩ : ByteArray)) ++ t134) ++ (⟨#[32]⟩ : ByteArray)) ++ t135) ++ (⟨#[32]⟩ : ByteArray)) ++ t136) ++ (⟨#[32]⟩ : ByteArray)).size + t137.size ≤ 9223372036854775807 then (if ((((((((((((((((((⟨#[116, 97, 115, 107, 32]⟩ : ByteArray) ++ a0_0) ++ (⟨#[32]⟩ : ByteArray)) ++ t130) ++ (⟨#[32]⟩ : ByteArray)) ++ t131) ++ (⟨#[32]⟩ : ByteArray)) ++ t132) ++ (⟨#[32]⟩ : ByteArray)) ++ t133) ++ (⟨#[32]⟩ : ByteArray)) ++ t134) ++ (⟨#[32]⟩ : ByteArray)) ++ t135) ++ (⟨#[32]⟩ : ByteArray)) ++ t136) ++ (⟨#[32]⟩ : ByteArray)) ++ t137).size + 1 ≤ 9223372036854775807 then ((pendulumref07_Number.f k a0_8).bind fun t138 => (if (((((((((((((((((((⟨#[116, 97, 115, 107, 32]⟩ : ByteArray) ++ a0_0) ++ (⟨#[32]⟩ : ByteArray)) ++ t130) ++ (⟨#[32]⟩ : ByteArray)) ++ t131) ++ (⟨#[32]⟩ : ByteArray)) ++ t132) ++ (⟨#[32]⟩ : ByteArray)) ++ t133) ++ (⟨#[32]⟩ : ByteArray)) ++ t134) ++ (⟨#[32]⟩ : ByteArray)) ++ t135) ++ (⟨#[32]⟩ : ByteArray)) ++ t136) ++ (⟨#[32]⟩ : ByteArray)) ++ t137) ++ (⟨#[32]⟩ : ByteArray)).size + t138.size ≤ 9223372036854775807 then (if ((((((((((((((((((((⟨#[116, 97, 115, 107, 32]⟩ : ByteArray) ++ a0_0) ++ (⟨#[32]⟩ : ByteArray)) ++ t130) ++ (⟨#[32]⟩ : ByteArray)) ++ t131) ++ (⟨#[32]⟩ : ByteArray)) ++ t132) ++ (⟨#[32]⟩ : ByteArray)) ++ t133) ++ (⟨#[32]⟩ : ByteArray)) ++ t134) ++ (⟨#[32]⟩ : ByteArray)) ++ t135) ++ (⟨#[32]⟩ : ByteArray)) ++ t136) ++ (⟨#[32]⟩ : ByteArray)) ++ t137) ++ (⟨#[32]⟩ : ByteArray)) ++ t138).size + 1 ≤ 9223372036854775807 then ((pendulumref07_Number.f k a0_10).bind fun t139 => (if (((((((((((((((((((((⟨#[116, 97, 115, 107, 32]⟩ : ByteArray) ++ a0_0) ++ (⟨#[32]⟩ : ByteArray)) ++ t130) ++ (⟨#[32]⟩ : ByteArray)) ++ t131) ++ (⟨#[32]⟩ : ByteArray)) ++ t132) ++ (⟨#[32]⟩ : ByteArray)) ++ t133) ++ (⟨#[32]⟩ : ByteArray)) ++ t134) ++ (⟨#[32]⟩ : ByteArray)) ++ t135) ++ (⟨#[32]⟩ : ByteArray)) ++ t136) ++ (⟨#[32]⟩ : ByteArray)) ++ t137) ++ (⟨#[32]⟩ : ByteArray)) ++ t138) ++ (⟨#[32]⟩ : ByteArray)).size + t139.size ≤ 9223372036854775807 then (some ((((((((((((((((((((((⟨#[116, 97, 115, 107, 32]⟩ : ByteArray) ++ a0_0) ++ (⟨#[32]⟩ : ByteArray)) ++ t130) ++ (⟨#[32]⟩ : ByteArray)) ++ t131) ++ (⟨#[32]⟩ : ByteArray)) ++ t132) ++ (⟨#[32]⟩ : ByteArray)) ++ t133) ++ (⟨#[32]⟩ : ByteArray)) ++ t134) ++ (⟨#[32]⟩ : ByteArray)) ++ t135) ++ (⟨#[32]⟩ : ByteArray)) ++ t136) ++ (⟨#[32]⟩ : ByteArray)) ++ t137) ++ (⟨#[32]⟩ : ByteArray)) ++ t138) ++ (⟨#[32]⟩ : ByteArray)) ++ t139)) else (none))) else (none)) else (none))) else (none)) else (none))) else (none)) else (none))) else (none)) else (none))) else (none)) else (none)) = some r := H
           have A16 := Aside0.mk A160
           clear A160
           by_cases c17 : (((((((((((⟨#[116, 97, 115, 107, 32]⟩ : ByteArray) ++ a0_0) ++ (⟨#[32]⟩ : ByteArray)) ++ t130) ++ (⟨#[32]⟩ : ByteArray)) ++ t131) ++ (⟨#[32]⟩ : ByteArray)) ++ t132) ++ (⟨#[32]⟩ : ByteArray)) ++ t133) ++ (⟨#[32]⟩ : ByteArray)).size + t134.size ≤ 9223372036854775807
           ·rw [if_pos c17] at H
            have c17b0 := eq_true c17
            have c17b1 : decide ((((((((((((⟨#[116, 97, 115, 107, 32]⟩ : ByteArray) ++ a0_0) ++ (⟨#[32]⟩ : ByteArray)) ++ t130) ++ (⟨#[32]⟩ : ByteArray)) ++ t131) ++ (⟨#[32]⟩ : ByteArray)) ++ t132) ++ (⟨#[32]⟩ : ByteArray)) ++ t133) ++ (⟨#[32]⟩ : ByteArray)).size + t134.size ≤ 9223372036854775807) = true := decide_eq_true c17
            try have c17b2 : (9223372036854775807 < (((((((((((⟨#[116, 97, 115, 107, 32]⟩ : ByteArray) ++ a0_0) ++ (⟨#[32]⟩ : ByteArray)) ++ t130) ++ (⟨#[32]⟩ : ByteArray)) ++ t131) ++ (⟨#[32]⟩ : ByteArray)) ++ t132) ++ (⟨#[32]⟩ : ByteArray)) ++ t133) ++ (⟨#[32]⟩ : ByteArray)).size + t134.size) = False := eq_false (Nat.not_lt.2 c17)
            (try (have c17b7 := c17b2; simp only [ByteArray.size_append, show (⟨#[116, 97, 115, 107, 32]⟩ : ByteArray).size = 5 from rfl, show (⟨#[32]⟩ : ByteArray).size = 1 from rfl] at c17b7))
            by_cases c18 : ((((((((((((⟨#[116, 97, 115, 107, 32]⟩ : ByteArray) ++ a0_0) ++ (⟨#[32]⟩ : ByteArray)) ++ t130) ++ (⟨#[32]⟩ : ByteArray)) ++ t131) ++ (⟨#[32]⟩ : ByteArray)) ++ t132) ++ (⟨#[32]⟩ : ByteArray)) ++ t133) ++ (⟨#[32]⟩ : ByteArray)) ++ t134).size + 1 ≤ 9223372036854775807
            ·rw [if_pos c18] at H
             have c18b0 := eq_true c18
             have c18b1 : decide (((((((((((((⟨#[116, 97, 115, 107, 32]⟩ : ByteArray) ++ a0_0) ++ (⟨#[32]⟩ : ByteArray)) ++ t130) ++ (⟨#[32]⟩ : ByteArray)) ++ t131) ++ (⟨#[32]⟩ : ByteArray)) ++ t132) ++ (⟨#[32]⟩ : ByteArray)) ++ t133) ++ (⟨#[32]⟩ : ByteArray)) ++ t134).size + 1 ≤ 9223372036854775807) = true := decide_eq_true c18
             try have c18b2 : (9223372036854775807 < ((((((((((((⟨#[116, 97, 115, 107, 32]⟩ : ByteArray) ++ a0_0) ++ (⟨#[32]⟩ : ByteArray)) ++ t130) ++ (⟨#[32]⟩ : ByteArray)) ++ t131) ++ (⟨#[32]⟩ : ByteArray)) ++ t132) ++ (⟨#[32]⟩ : ByteArray)) ++ t133) ++ (⟨#[32]⟩ : ByteArray)) ++ t134).size + 1) = False := eq_false (Nat.not_lt.2 c18)
             (try (have c18b7 := c18b2; simp only [ByteArray.size_append, show (⟨#[116, 97, 115, 107, 32]⟩ : ByteArray).size = 5 from rfl, show (⟨#[32]⟩ : ByteArray).size = 1 from rfl] at c18b7))
             replace H := Option.bind_eq_some_iff.mp H
             obtain ⟨t135, A190, H⟩ := H
             replace H : (if (((((((((((((⟨#[116, 97, 115, 107, 32]⟩ : ByteArray) ++ a0_0) ++ (⟨#[32]⟩ : ByteArray)) ++ t130) ++ (⟨#[32]⟩ : ByteArray)) ++ t131) ++ (⟨#[32]⟩ : ByteArray)) ++ t132) ++ (⟨#[32]⟩ : ByteArray)) ++ t133) ++ (⟨#[32]⟩ : ByteArray)) ++ t134) ++ (⟨#[32]⟩ : ByteArray)).size + t135.size ≤ 9223372036854775807 then (if ((((((((((((((⟨#[116, 97, 115, 107, 32]⟩ : ByteArray) ++ a0_0) ++ (⟨#[32]⟩ : ByteArray)) ++ t130) ++ (⟨#[32]⟩ : ByteArray)) ++ t131) ++ (⟨#[32]⟩ : ByteArray)) ++ t132) ++ (⟨#[32]⟩ : ByteArray)) ++ t133) ++ (⟨#[32]⟩ : ByteArray)) ++ t134) ++ (⟨#[32]⟩ : ByteArray)) ++ t135).size + 1 ≤ 9223372036854775807 then ((pendulumref07_Number.f k a0_6).bind fun t136 => (if (((((((((((((((⟨#[116, 97, 115, 107, 32]⟩ : ByteArray) ++ a0_0) ++ (⟨#[32]⟩ : ByteArray)) ++ t130) ++ (⟨#[32]⟩ : ByteArray)) ++ t131) ++ (⟨#[32]⟩ : ByteArray)) ++ t132) ++ (⟨#[32]⟩ : ByteArray)) ++ t133) ++ (⟨#[32]⟩ : ByteArray)) ++ t134) ++ (⟨#[32]⟩ : ByteArray)) ++ t135) ++ (⟨#[32]⟩ : ByteArray)).size + t136.size ≤ 9223372036854775807 then (if ((((((((((((((((⟨#[116, 97, 115, 107, 32]⟩ : ByteArray) ++ a0_0) ++ (⟨#[32]⟩ : ByteArray)) ++ t130) ++ (⟨#[32]⟩ : ByteArray)) ++ t131) ++ (⟨#[32]⟩ : ByteArray)) ++ t132) ++ (⟨#[32]⟩ : ByteArray)) ++ t133) ++ (⟨#[32]⟩ : ByteArray)) ++ t134) ++ (⟨#[32]⟩ : ByteArray)) ++ t135) ++ (⟨#[32]⟩ : ByteArray)) ++ t136).size + 1 ≤ 9223372036854775807 then ((pendulumref07_Number.f k a0_7).bind fun t137 => (if (((((((((((((((((⟨#[116, 97, 115, 107, 32]⟩ : ByteArray) ++ a0_0) ++ (⟨#[32]⟩ : ByteArray)) ++ t130) ++ (⟨#[32]⟩ : ByteArray)) ++ t131) ++ (⟨#[32]⟩ : ByteArray)) ++ t132) ++ (⟨#[32]⟩ : ByteArray)) ++ t133) ++ (⟨#[32]⟩ : ByteArray)) ++ t134) ++ (⟨#[32]⟩ : ByteArray)) ++ t135) ++ (⟨#[32]⟩ : ByteArray)) ++ t136) ++ (⟨#[32]⟩ : ByteArray)).size + t137.size ≤ 9223372036854775807 then (if ((((((((((((((((((⟨#[116, 97, 115, 107, 32]⟩ : ByteArray) ++ a0_0) ++ (⟨#[32]⟩ : ByteArray)) ++ t130) ++ (⟨#[32]⟩ : ByteArray)) ++ t131) ++ (⟨#[32]⟩ : ByteArray)) ++ t132) ++ (⟨#[32]⟩ : ByteArray)) ++ t133) ++ (⟨#[32]⟩ : ByteArray)) ++ t134) ++ (⟨#[32]⟩ : ByteArray)) ++ t135) ++ (⟨#[32]⟩ : ByteArray)) ++ t136) ++ (⟨#[32]⟩ : ByteArray)) ++ t137).size + 1 ≤ 9223372036854775807 then ((pendulumref07_Number.f k a0_8).bind fun t138 => (if (((((((((((((((((((⟨#[116, 97, 115, 107, 32]⟩ : ByteArray) ++ a0_0) ++ (⟨#[32]⟩ : ByteArray)) ++ t130) ++ (⟨#[32]⟩ : ByteArray)) ++ t131) ++ (⟨#[32]⟩ : ByteArray)) ++ t132) ++ (⟨#[32]⟩ : ByteArray)) ++ t133) ++ (⟨#[32]⟩ : ByteArray)) ++ t134) ++ (⟨#[32]⟩ : ByteArray)) ++ t135) ++ (⟨#[32]⟩ : ByteArray)) ++ t136) ++ (⟨#[32]⟩ : ByteArray)) ++ t137) ++ (⟨#[32]⟩ : ByteArray)).size + t138.size ≤ 9223372036854775807 then (if ((((((((((((((((((((⟨#[116, 97, 115, 107, 32]⟩ : ByteArray) ++ a0_0) ++ (⟨#[32]⟩ : ByteArray)) ++ t130) ++ (⟨#[32]⟩ : ByteArray)) ++ t131) ++ (⟨#[32]⟩ : ByteArray)) ++ t132) ++ (⟨#[32]⟩ : ByteArray)) ++ t133) ++ (⟨#[32]⟩ : ByteArray)) ++ t134) ++ (⟨#[32]⟩ : ByteArray)) ++ t135) ++ (⟨#[32]⟩ : ByteArray)) ++ t136) ++ (⟨#[32]⟩ : ByteArray)) ++ t137) ++ (⟨#[32]⟩ : ByteArray)) ++ t138).size + 1 ≤ 9223372036854775807 then ((pendulumref07_Number.f k a0_10).bind fun t139 => (if (((((((((((((((((((((⟨#[116, 97, 115, 107, 32]⟩ : ByteArray) ++ a0_0) ++ (⟨#[32]⟩ : ByteArray)) ++ t130) ++ (⟨#[32]⟩ : ByteArray)) ++ t131) ++ (⟨#[32]⟩ : ByteArray)) ++ t132) ++ (⟨#[32]⟩ : ByteArray)) ++ t133) ++ (⟨#[32]⟩ : ByteArray)) ++ t134) ++ (⟨#[32]⟩ : ByteArray)) ++ t135) ++ (⟨#[32]⟩ : ByteArray)) ++ t136) ++ (⟨#[32]⟩ : ByteArray)) ++ t137) ++ (⟨#[32]⟩ : ByteArray)) ++ t138) ++ (⟨#[32]⟩ : ByteArray)).size + t139.size ≤ 9223372036854775807 then (some ((((((((((((((((((((((⟨#[116, 97, 115, 107, 32]⟩ : ByteArray) ++ a0_0) ++ (⟨#[32]⟩ : ByteArray)) ++ t130) ++ (⟨#[32]⟩ : ByteArray)) ++ t131) ++ (⟨#[32]⟩ : ByteArray)) ++ t132) ++ (⟨#[32]⟩ : ByteArray)) ++ t133) ++ (⟨#[32]⟩ : ByteArray)) ++ t134) ++ (⟨#[32]⟩ : ByteArray)) ++ t135) ++ (⟨#[32]⟩ : ByteArray)) ++ t136) ++ (⟨#[32]⟩ : ByteArray)) ++ t137) ++ (⟨#[32]⟩ : ByteArray)) ++ t138) ++ (⟨#[32]⟩ : ByteArray)) ++ t139)) else (none))) else (none)) else (none))) else (none)) else (none))) else (none)) else (none))) else (none)) else (none)) = some r := H
             have A19 := Aside0.mk A190
             clear A190
             by_cases c20 : (((((((((((((⟨#[116, 97, 115, 107, 32]⟩ : ByteArray) ++ a0_0) ++ (⟨#[32]⟩ : ByteArray)) ++ t130) ++ (⟨#[32]⟩ : ByteArray)) ++ t131) ++ (⟨#[32]⟩ : ByteArray)) ++ t132) ++ (⟨#[32]⟩ : ByteArray)) ++ t133) ++ (⟨#[32]⟩ : ByteArray)) ++ t134) ++ (⟨#[32]⟩ : ByteArray)).size + t135.size ≤ 9223372036854775807
             ·rw [if_pos c20] at H
              have c20b0 := eq_true c20
              have c20b1 : decide ((((((((((((((⟨#[116, 97, 115, 107, 32]⟩ : ByteArray) ++ a0_0) ++ (⟨#[32]⟩ : ByteArray)) ++ t130) ++ (⟨#[32]⟩ : ByteArray)) ++ t131) ++ (⟨#[32]⟩ : ByteArray)) ++ t132) ++ (⟨#[32]⟩ : ByteArray)) ++ t133) ++ (⟨#[32]⟩ : ByteArray)) ++ t134) ++ (⟨#[32]⟩ : ByteArray)).size + t135.size ≤ 9223372036854775807) = true := decide_eq_true c20
              try have c20b2 : (9223372036854775807 < (((((((((((((⟨#[116, 97, 115, 107, 32]⟩ : ByteArray) ++ a0_0) ++ (⟨#[32]⟩ : ByteArray)) ++ t130) ++ (⟨#[32]⟩ : ByteArray)) ++ t131) ++ (⟨#[32]⟩ : ByteArray)) ++ t132) ++ (⟨#[32]⟩ : ByteArray)) ++ t133) ++ (⟨#[32]⟩ : ByteArray)) ++ t134) ++ (⟨#[32]⟩ : ByteArray)).size + t135.size) = False := eq_false (Nat.not_lt.2 c20)
              (try (have c20b7 := c20b2; simp only [ByteArray.size_append, show (⟨#[116, 97, 115, 107, 32]⟩ : ByteArray).size = 5 from rfl, show (⟨#[32]⟩ : ByteArray).size = 1 from rfl] at c20b7))
              by_cases c21 : ((((((((((((((⟨#[116, 97, 115, 107, 32]⟩ : ByteArray) ++ a0_0) ++ (⟨#[32]⟩ : ByteArray)) ++ t130) ++ (⟨#[32]⟩ : ByteArray)) ++ t131) ++ (⟨#[32]⟩ : ByteArray)) ++ t132) ++ (⟨#[32]⟩ : ByteArray)) ++ t133) ++ (⟨#[32]⟩ : ByteArray)) ++ t134) ++ (⟨#[32]⟩ : ByteArray)) ++ t135).size + 1 ≤ 9223372036854775807
              ·rw [if_pos c21] at H
               have c21b0 := eq_true c21
               have c21b1 : decide (((((((((((((((⟨#[116, 97, 115, 107, 32]⟩ : ByteArray) ++ a0_0) ++ (⟨#[32]⟩ : ByteArray)) ++ t130) ++ (⟨#[32]⟩ : ByteArray)) ++ t131) ++ (⟨#[32]⟩ : ByteArray)) ++ t132) ++ (⟨#[32]⟩ : ByteArray)) ++ t133) ++ (⟨#[32]⟩ : ByteArray)) ++ t134) ++ (⟨#[32]⟩ : ByteArray)) ++ t135).size + 1 ≤ 9223372036854775807) = true := decide_eq_true c21
               try have c21b2 : (9223372036854775807 < ((((((((((((((⟨#[116, 97, 115, 107, 32]⟩ : ByteArray) ++ a0_0) ++ (⟨#[32]⟩ : ByteArray)) ++ t130) ++ (⟨#[32]⟩ : ByteArray)) ++ t131) ++ (⟨#[32]⟩ : ByteArray)) ++ t132) ++ (⟨#[32]⟩ : ByteArray)) ++ t133) ++ (⟨#[32]⟩ : ByteArray)) ++ t134) ++ (⟨#[32]⟩ : ByteArray)) ++ t135).size + 1) = False := eq_false (Nat.not_lt.2 c21)
               (try (have c21b7 := c21b2; simp only [ByteArray.size_append, show (⟨#[116, 97, 115, 107, 32]⟩ : ByteArray).size = 5 from rfl, show (⟨#[32]⟩ : ByteArray).size = 1 from rfl] at c21b7))
               replace H := Option.bind_eq_some_iff.mp H
               obtain ⟨t136, A220, H⟩ := H
               replace H : (if (((((((((((((((⟨#[116, 97, 115, 107, 32]⟩ : ByteArray) ++ a0_0) ++ (⟨#[32]⟩ : ByteArray)) ++ t130) ++ (⟨#[32]⟩ : ByteArray)) ++ t131) ++ (⟨#[32]⟩ : ByteArray)) ++ t132) ++ (⟨#[32]⟩ : ByteArray)) ++ t133) ++ (⟨#[32]⟩ : ByteArray)) ++ t134) ++ (⟨#[32]⟩ : ByteArray)) ++ t135) ++ (⟨#[32]⟩ : ByteArray)).size + t136.size ≤ 9223372036854775807 then (if ((((((((((((((((⟨#[116, 97, 115, 107, 32]⟩ : ByteArray) ++ a0_0) ++ (⟨#[32]⟩ : ByteArray)) ++ t130) ++ (⟨#[32]⟩ : ByteArray)) ++ t131) ++ (⟨#[32]⟩ : ByteArray)) ++ t132) ++ (⟨#[32]⟩ : ByteArray)) ++ t133) ++ (⟨#[32]⟩ : ByteArray)) ++ t134) ++ (⟨#[32]⟩ : ByteArray)) ++ t135) ++ (⟨#[32]⟩ : ByteArray)) ++ t136).size + 1 ≤ 9223372036854775807 then ((pendulumref07_Number.f k a0_7).bind fun t137 => (if (((((((((((((((((⟨#[116, 97, 115, 107, 32]⟩ : ByteArray) ++ a0_0) ++ (⟨#[32]⟩ : ByteArray)) ++ t130) ++ (⟨#[32]⟩ : ByteArray)) ++ t131) ++ (⟨#[32]⟩ : ByteArray)) ++ t132) ++ (⟨#[32]⟩ : ByteArray)) ++ t133) ++ (⟨#[32]⟩ : ByteArray)) ++ t134) ++ (⟨#[32]⟩ : ByteArray)) ++ t135) ++ (⟨#[32]⟩ : ByteArray)) ++ t136) ++ (⟨#[32]⟩ : ByteArray)).size + t137.size ≤ 9223372036854775807 then (if ((((((((((((((((((⟨#[116, 97, 115, 107, 32]⟩ : ByteArray) ++ a0_0) ++ (⟨#[32]⟩ : ByteArray)) ++ t130) ++ (⟨#[32]⟩ : ByteArray)) ++ t131) ++ (⟨#[32]⟩ : ByteArray)) ++ t132) ++ (⟨#[32]⟩ : ByteArray)) ++ t133) ++ (⟨#[32]⟩ : ByteArray)) ++ t134) ++ (⟨#[32]⟩ : ByteArray)) ++ t135) ++ (⟨#[32]⟩ : ByteArray)) ++ t136) ++ (⟨#[32]⟩ : ByteArray)) ++ t137).size + 1 ≤ 9223372036854775807 then ((pendulumref07_Number.f k a0_8).bind fun t138 => (if (((((((((((((((((((⟨#[116, 97, 115, 107, 32]⟩ : ByteArray) ++ a0_0) ++ (⟨#[32]⟩ : ByteArray)) ++ t130) ++ (⟨#[32]⟩ : ByteArray)) ++ t131) ++ (⟨#[32]⟩ : ByteArray)) ++ t132) ++ (⟨#[32]⟩ : ByteArray)) ++ t133) ++ (⟨#[32]⟩ : ByteArray)) ++ t134) ++ (⟨#[32]⟩ : ByteArray)) ++ t135) ++ (⟨#[32]⟩ : ByteArray)) ++ t136) ++ (⟨#[32]⟩ : ByteArray)) ++ t137) ++ (⟨#[32]⟩ : ByteArray)).size + t138.size ≤ 9223372036854775807 then (if ((((((((((((((((((((⟨#[116, 97, 115, 107, 32]⟩ : ByteArray) ++ a0_0) ++ (⟨#[32]⟩ : ByteArray)) ++ t130) ++ (⟨#[32]⟩ : ByteArray)) ++ t131) ++ (⟨#[32]⟩ : ByteArray)) ++ t132) ++ (⟨#[32]⟩ : ByteArray)) ++ t133) ++ (⟨#[32]⟩ : ByteArray)) ++ t134) ++ (⟨#[32]⟩ : ByteArray)) ++ t135) ++ (⟨#[32]⟩ : ByteArray)) ++ t136) ++ (⟨#[32]⟩ : ByteArray)) ++ t137) ++ (⟨#[32]⟩ : ByteArray)) ++ t138).size + 1 ≤ 9223372036854775807 then ((pendulumref07_Number.f k a0_10).bind fun t139 => (if (((((((((((((((((((((⟨#[116, 97, 115, 107, 32]⟩ : ByteArray) ++ a0_0) ++ (⟨#[32]⟩ : ByteArray)) ++ t130) ++ (⟨#[32]⟩ : ByteArray)) ++ t131) ++ (⟨#[32]⟩ : ByteArray)) ++ t132) ++ (⟨#[32]⟩ : ByteArray)) ++ t133) ++ (⟨#[32]⟩ : ByteArray)) ++ t134) ++ (⟨#[32]⟩ : ByteArray)) ++ t135) ++ (⟨#[32]⟩ : ByteArray)) ++ t136) ++ (⟨#[32]⟩ : ByteArray)) ++ t137) ++ (⟨#[32]⟩ : ByteArray)) ++ t138) ++ (⟨#[32]⟩ : ByteArray)).size + t139.size ≤ 9223372036854775807 then (some ((((((((((((((((((((((⟨#[116, 97, 115, 107, 32]⟩ : ByteArray) ++ a0_0) ++ (⟨#[32]⟩ : ByteArray)) ++ t130) ++ (⟨#[32]⟩ : ByteArray)) ++ t131) ++ (⟨#[32]⟩ : ByteArray)) ++ t132) ++ (⟨#[32]⟩ : ByteArray)) ++ t133) ++ (⟨#[32]⟩ : ByteArray)) ++ t134) ++ (⟨#[32]⟩ : ByteArray)) ++ t135) ++ (⟨#[32]⟩ : ByteArray)) ++ t136) ++ (⟨#[32]⟩ : ByteArray)) ++ t137) ++ (⟨#[32]⟩ : ByteArray)) ++ t138) ++ (⟨#[32]⟩ : ByteArray)) ++ t139)) else (none))) else (none)) else (none))) else (none)) else (none))) else (none)) else (none)) = some r := H
               have A22 := Aside0.mk A220
               clear A220
               by_cases c23 : (((((((((((((((⟨#[116, 97, 115, 107, 32]⟩ : ByteArray) ++ a0_0) ++ (⟨#[32]⟩ : ByteArray)) ++ t130) ++ (⟨#[32]⟩ : ByteArray)) ++ t131) ++ (⟨#[32]⟩ : ByteArray)) ++ t132) ++ (⟨#[32]⟩ : ByteArray)) ++ t133) ++ (⟨#[32]⟩ : ByteArray)) ++ t134) ++ (⟨#[32]⟩ : ByteArray)) ++ t135) ++ (⟨#[32]⟩ : ByteArray)).size + t136.size ≤ 9223372036854775807
               ·rw [if_pos c23] at H
                have c23b0 := eq_true c23
                have c23b1 : decide ((((((((((((((((⟨#[116, 97, 115, 107, 32]⟩ : ByteArray) ++ a0_0) ++ (⟨#[32]⟩ : ByteArray)) ++ t130) ++ (⟨#[32]⟩ : ByteArray)) ++ t131) ++ (⟨#[32]⟩ : ByteArray)) ++ t132) ++ (⟨#[32]⟩ : ByteArray)) ++ t133) ++ (⟨#[32]⟩ : ByteArray)) ++ t134) ++ (⟨#[32]⟩ : ByteArray)) ++ t135) ++ (⟨#[32]⟩ : ByteArray)).size + t136.size ≤ 9223372036854775807) = true := decide_eq_true c23
                try have c23b2 : (9223372036854775807 < (((((((((((((((⟨#[116, 97, 115, 107, 32]⟩ : ByteArray) ++ a0_0) ++ (⟨#[32]⟩ : ByteArray)) ++ t130) ++ (⟨#[32]⟩ : ByteArray)) ++ t131) ++ (⟨#[32]⟩ : ByteArray)) ++ t132) ++ (⟨#[32]⟩ : ByteArray)) ++ t133) ++ (⟨#[32]⟩ : ByteArray)) ++ t134) ++ (⟨#[32]⟩ : ByteArray)) ++ t135) ++ (⟨#[32]⟩ : ByteArray)).size + t136.size) = False := eq_false (Nat.not_lt.2 c23)
                (try (have c23b7 := c23b2; simp only [ByteArray.size_append, show (⟨#[116, 97, 115, 107, 32]⟩ : ByteArray).size = 5 from rfl, show (⟨#[32]⟩ : ByteArray).size = 1 from rfl] at c23b7))
                by_cases c24 : ((((((((((((((((⟨#[116, 97, 115, 107, 32]⟩ : ByteArray) ++ a0_0) ++ (⟨#[32]⟩ : ByteArray)) ++ t130) ++ (⟨#[32]⟩ : ByteArray)) ++ t131) ++ (⟨#[32]⟩ : ByteArray)) ++ t132) ++ (⟨#[32]⟩ : ByteArray)) ++ t133) ++ (⟨#[32]⟩ : ByteArray)) ++ t134) ++ (⟨#[32]⟩ : ByteArray)) ++ t135) ++ (⟨#[32]⟩ : ByteArray)) ++ t136).size + 1 ≤ 9223372036854775807
                ·rw [if_pos c24] at H
                 have c24b0 := eq_true c24
                 have c24b1 : decide (((((((((((((((((⟨#[116, 97, 115, 107, 32]⟩ : ByteArray) ++ a0_0) ++ (⟨#[32]⟩ : ByteArray)) ++ t130) ++ (⟨#[32]⟩ : ByteArray)) ++ t131) ++ (⟨#[32]⟩ : ByteArray)) ++ t132) ++ (⟨#[32]⟩ : ByteArray)) ++ t133) ++ (⟨#[32]⟩ : ByteArray)) ++ t134) ++ (⟨#[32]⟩ : ByteArray)) ++ t135) ++ (⟨#[32]⟩ : ByteArray)) ++ t136).size + 1 ≤ 9223372036854775807) = true := decide_eq_true c24
                 try have c24b2 : (9223372036854775807 < ((((((((((((((((⟨#[116, 97, 115, 107, 32]⟩ : ByteArray) ++ a0_0) ++ (⟨#[32]⟩ : ByteArray)) ++ t130) ++ (⟨#[32]⟩ : ByteArray)) ++ t131) ++ (⟨#[32]⟩ : ByteArray)) ++ t132) ++ (⟨#[32]⟩ : ByteArray)) ++ t133) ++ (⟨#[32]⟩ : ByteArray)) ++ t134) ++ (⟨#[32]⟩ : ByteArray)) ++ t135) ++ (⟨#[32]⟩ : ByteArray)) ++ t136).size + 1) = False := eq_false (Nat.not_lt.2 c24)
                 (try (have c24b7 := c24b2; simp only [ByteArray.size_append, show (⟨#[116, 97, 115, 107, 32]⟩ : ByteArray).size = 5 from rfl, show (⟨#[32]⟩ : ByteArray).size = 1 from rfl] at c24b7))
                 replace H := Option.bind_eq_some_iff.mp H
                 obtain ⟨t137, A250, H⟩ := H
                 replace H : (if (((((((((((((((((⟨#[116, 97, 115, 107, 32]⟩ : ByteArray) ++ a0_0) ++ (⟨#[32]⟩ : ByteArray)) ++ t130) ++ (⟨#[32]⟩ : ByteArray)) ++ t131) ++ (⟨#[32]⟩ : ByteArray)) ++ t132) ++ (⟨#[32]⟩ : ByteArray)) ++ t133) ++ (⟨#[32]⟩ : ByteArray)) ++ t134) ++ (⟨#[32]⟩ : ByteArray)) ++ t135) ++ (⟨#[32]⟩ : ByteArray)) ++ t136) ++ (⟨#[32]⟩ : ByteArray)).size + t137.size ≤ 9223372036854775807 then (if ((((((((((((((((((⟨#[116, 97, 115, 107, 32]⟩ : ByteArray) ++ a0_0) ++ (⟨#[32]⟩ : ByteArray)) ++ t130) ++ (⟨#[32]⟩ : ByteArray)) ++ t131) ++ (⟨#[32]⟩ : ByteArray)) ++ t132) ++ (⟨#[32]⟩ : ByteArray)) ++ t133) ++ (⟨#[32]⟩ : ByteArray)) ++ t134) ++ (⟨#[32]⟩ : ByteArray)) ++ t135) ++ (⟨#[32]⟩ : ByteArray)) ++ t136) ++ (⟨#[32]⟩ : ByteArray)) ++ t137).size + 1 ≤ 9223372036854775807 then ((pendulumref07_Number.f k a0_8).bind fun t138 => (if (((((((((((((((((((⟨#[116, 97, 115, 107, 32]⟩ : ByteArray) ++ a0_0) ++ (⟨#[32]⟩ : ByteArray)) ++ t130) ++ (⟨#[32]⟩ : ByteArray)) ++ t131) ++ (⟨#[32]⟩ : ByteArray)) ++ t132) ++ (⟨#[32]⟩ : ByteArray)) ++ t133) ++ (⟨#[32]⟩ : ByteArray)) ++ t134) ++ (⟨#[32]⟩ : ByteArray)) ++ t135) ++ (⟨#[32]⟩ : ByteArray)) ++ t136) ++ (⟨#[32]⟩ : ByteArray)) ++ t137) ++ (⟨#[32]⟩ : ByteArray)).size + t138.size ≤ 9223372036854775807 then (if ((((((((((((((((((((⟨#[116, 97, 115, 107, 32]⟩ : ByteArray) ++ a0_0) ++ (⟨#[32]⟩ : ByteArray)) ++ t130) ++ (⟨#[32]⟩ : ByteArray)) ++ t131) ++ (⟨#[32]⟩ : ByteArray)) ++ t132) ++ (⟨#[32]⟩ : ByteArray)) ++ t133) ++ (⟨#[32]⟩ : ByteArray)) ++ t134) ++ (⟨#[32]⟩ : ByteArray)) ++ t135) ++ (⟨#[32]⟩ : ByteArray)) ++ t136) ++ (⟨#[32]⟩ : ByteArray)) ++ t137) ++ (⟨#[32]⟩ : ByteArray)) ++ t138).size + 1 ≤ 9223372036854775807 then ((pendulumref07_Number.f k a0_10).bind fun t139 => (if (((((((((((((((((((((⟨#[116, 97, 115, 107, 32]⟩ : ByteArray) ++ a0_0) ++ (⟨#[32]⟩ : ByteArray)) ++ t130) ++ (⟨#[32]⟩ : ByteArray)) ++ t131) ++ (⟨#[32]⟩ : ByteArray)) ++ t132) ++ (⟨#[32]⟩ : ByteArray)) ++ t133) ++ (⟨#[32]⟩ : ByteArray)) ++ t134) ++ (⟨#[32]⟩ : ByteArray)) ++ t135) ++ (⟨#[32]⟩ : ByteArray)) ++ t136) ++ (⟨#[32]⟩ : ByteArray)) ++ t137) ++ (⟨#[32]⟩ : ByteArray)) ++ t138) ++ (⟨#[32]⟩ : ByteArray)).size + t139.size ≤ 9223372036854775807 then (some ((((((((((((((((((((((⟨#[116, 97, 115, 107, 32]⟩ : ByteArray) ++ a0_0) ++ (⟨#[32]⟩ : ByteArray)) ++ t130) ++ (⟨#[32]⟩ : ByteArray)) ++ t131) ++ (⟨#[32]⟩ : ByteArray)) ++ t132) ++ (⟨#[32]⟩ : ByteArray)) ++ t133) ++ (⟨#[32]⟩ : ByteArray)) ++ t134) ++ (⟨#[32]⟩ : ByteArray)) ++ t135) ++ (⟨#[32]⟩ : ByteArray)) ++ t136) ++ (⟨#[32]⟩ : ByteArray)) ++ t137) ++ (⟨#[32]⟩ : ByteArray)) ++ t138) ++ (⟨#[32]⟩ : ByteArray)) ++ t139)) else (none))) else (none)) else (none))) else (none)) else (none)) = some r := H
                 have A25 := Aside0.mk A250
                 clear A250
                 by_cases c26 : (((((((((((((((((⟨#[116, 97, 115, 107, 32]⟩ : ByteArray) ++ a0_0) ++ (⟨#[32]⟩ : ByteArray)) ++ t130) ++ (⟨#[32]⟩ : ByteArray)) ++ t131) ++ (⟨#[32]⟩ : ByteArray)) ++ t132) ++ (⟨#[32]⟩ : ByteArray)) ++ t133) ++ (⟨#[32]⟩ : ByteArray)) ++ t134) ++ (⟨#[32]⟩ : ByteArray)) ++ t135) ++ (⟨#[32]⟩ : ByteArray)) ++ t136) ++ (⟨#[32]⟩ : ByteArray)).size + t137.size ≤ 9223372036854775807
                 ·rw [if_pos c26] at H
                  have c26b0 := eq_true c26
                  have c26b1 : decide ((((((((((((((((((⟨#[116, 97, 115, 107, 32]⟩ : ByteArray) ++ a0_0) ++ (⟨#[32]⟩ : ByteArray)) ++ t130) ++ (⟨#[32]⟩ : ByteArray)) ++ t131) ++ (⟨#[32]⟩ : ByteArray)) ++ t132) ++ (⟨#[32]⟩ : ByteArray)) ++ t133) ++ (⟨#[32]⟩ : ByteArray)) ++ t134) ++ (⟨#[32]⟩ : ByteArray)) ++ t135) ++ (⟨#[32]⟩ : ByteArray)) ++ t136) ++ (⟨#[32]⟩ : ByteArray)).size + t137.size ≤ 9223372036854775807) = true := decide_eq_true c26
                  try have c26b2 : (9223372036854775807 < (((((((((((((((((⟨#[116, 97, 115, 107, 32]⟩ : ByteArray) ++ a0_0) ++ (⟨#[32]⟩ : ByteArray)) ++ t130) ++ (⟨#[32]⟩ : ByteArray)) ++ t131) ++ (⟨#[32]⟩ : ByteArray)) ++ t132) ++ (⟨#[32]⟩ : ByteArray)) ++ t133) ++ (⟨#[32]⟩ : ByteArray)) ++ t134) ++ (⟨#[32]⟩ : ByteArray)) ++ t135) ++ (⟨#[32]⟩ : ByteArray)) ++ t136) ++ (⟨#[32]⟩ : ByteArray)).size + t137.size) = False := eq_false (Nat.not_lt.2 c26)
                  (try (have c26b7 := c26b2; simp only [ByteArray.size_append, show (⟨#[116, 97, 115, 107, 32]⟩ : ByteArray).size = 5 from rfl, show (⟨#[32]⟩ : ByteArray).size = 1 from rfl] at c26b7))
                  by_cases c27 : ((((((((((((((((((⟨#[116, 97, 115, 107, 32]⟩ : ByteArray) ++ a0_0) ++ (⟨#[32]⟩ : ByteArray)) ++ t130) ++ (⟨#[32]⟩ : ByteArray)) ++ t131) ++ (⟨#[32]⟩ : ByteArray)) ++ t132) ++ (⟨#[32]⟩ : ByteArray)) ++ t133) ++ (⟨#[32]⟩ : ByteArray)) ++ t134) ++ (⟨#[32]⟩ : ByteArray)) ++ t135) ++ (⟨#[32]⟩ : ByteArray)) ++ t136) ++ (⟨#[32]⟩ : ByteArray)) ++ t137).size + 1 ≤ 9223372036854775807
                  ·rw [if_pos c27] at H
                   have c27b0 := eq_true c27
                   have c27b1 : decide (((((((((((((((((((⟨#[116, 97, 115, 107, 32]⟩ : ByteArray) ++ a0_0) ++ (⟨#[32]⟩ : ByteArray)) ++ t130) ++ (⟨#[32]⟩ : ByteArray)) ++ t131) ++ (⟨#[32]⟩ : ByteArray)) ++ t132) ++ (⟨#[32]⟩ : ByteArray)) ++ t133) ++ (⟨#[32]⟩ : ByteArray)) ++ t134) ++ (⟨#[32]⟩ : ByteArray)) ++ t135) ++ (⟨#[32]⟩ : ByteArray)) ++ t136) ++ (⟨#[32]⟩ : ByteArray)) ++ t137).size + 1 ≤ 9223372036854775807) = true := decide_eq_true c27
                   try have c27b2 : (9223372036854775807 < ((((((((((((((((((⟨#[116, 97, 115, 107, 32]⟩ : ByteArray) ++ a0_0) ++ (⟨#[32]⟩ : ByteArray)) ++ t130) ++ (⟨#[32]⟩ : ByteArray)) ++ t131) ++ (⟨#[32]⟩ : ByteArray)) ++ t132) ++ (⟨#[32]⟩ : ByteArray)) ++ t133) ++ (⟨#[32]⟩ : ByteArray)) ++ t134) ++ (⟨#[32]⟩ : ByteArray)) ++ t135) ++ (⟨#[32]⟩ : ByteArray)) ++ t136) ++ (⟨#[32]⟩ : ByteArray)) ++ t137).size + 1) = False := eq_false (Nat.not_lt.2 c27)
                   (try (have c27b7 := c27b2; simp only [ByteArray.size_append, show (⟨#[116, 97, 115, 107, 32]⟩ : ByteArray).size = 5 from rfl, show (⟨#[32]⟩ : ByteArray).size = 1 from rfl] at c27b7))
                   replace H := Option.bind_eq_some_iff.mp H
                   obtain ⟨t138, A280, H⟩ := H
                   replace H : (if (((((((((((((((((((⟨#[116, 97, 115, 107, 32]⟩ : ByteArray) ++ a0_0) ++ (⟨#[32]⟩ : ByteArray)) ++ t130) ++ (⟨#[32]⟩ : ByteArray)) ++ t131) ++ (⟨#[32]⟩ : ByteArray)) ++ t132) ++ (⟨#[32]⟩ : ByteArray)) ++ t133) ++ (⟨#[32]⟩ : ByteArray)) ++ t134) ++ (⟨#[32]⟩ : ByteArray)) ++ t135) ++ (⟨#[32]⟩ : ByteArray)) ++ t136) ++ (⟨#[32]⟩ : ByteArray)) ++ t137) ++ (⟨#[32]⟩ : ByteArray)).size + t138.size ≤ 9223372036854775807 then (if ((((((((((((((((((((⟨#[116, 97, 115, 107, 32]⟩ : ByteArray) ++ a0_0) ++ (⟨#[32]⟩ : ByteArray)) ++ t130) ++ (⟨#[32]⟩ : ByteArray)) ++ t131) ++ (⟨#[32]⟩ : ByteArray)) ++ t132) ++ (⟨#[32]⟩ : ByteArray)) ++ t133) ++ (⟨#[32]⟩ : ByteArray)) ++ t134) ++ (⟨#[32]⟩ : ByteArray)) ++ t135) ++ (⟨#[32]⟩ : ByteArray)) ++ t136) ++ (⟨#[32]⟩ : ByteArray)) ++ t137) ++ (⟨#[32]⟩ : ByteArray)) ++ t138).size + 1 ≤ 9223372036854775807 then ((pendulumref07_Number.f k a0_10).bind fun t139 => (if (((((((((((((((((((((⟨#[116, 97, 115, 107, 32]⟩ : ByteArray) ++ a0_0) ++ (⟨#[32]⟩ : ByteArray)) ++ t130) ++ (⟨#[32]⟩ : ByteArray)) ++ t131) ++ (⟨#[32]⟩ : ByteArray)) ++ t132) ++ (⟨#[32]⟩ : ByteArray)) ++ t133) ++ (⟨#[32]⟩ : ByteArray)) ++ t134) ++ (⟨#[32]⟩ : ByteArray)) ++ t135) ++ (⟨#[32]⟩ : ByteArray)) ++ t136) ++ (⟨#[32]⟩ : ByteArray)) ++ t137) ++ (⟨#[32]⟩ : ByteArray)) ++ t138) ++ (⟨#[32]⟩ : ByteArray)).size + t139.size ≤ 9223372036854775807 then (some ((((((((((((((((((((((⟨#[116, 97, 115, 107, 32]⟩ : ByteArray) ++ a0_0) ++ (⟨#[32]⟩ : ByteArray)) ++ t130) ++ (⟨#[32]⟩ : ByteArray)) ++ t131) ++ (⟨#[32]⟩ : ByteArray)) ++ t132) ++ (⟨#[32]⟩ : ByteArray)) ++ t133) ++ (⟨#[32]⟩ : ByteArray)) ++ t134) ++ (⟨#[32]⟩ : ByteArray)) ++ t135) ++ (⟨#[32]⟩ : ByteArray)) ++ t136) ++ (⟨#[32]⟩ : ByteArray)) ++ t137) ++ (⟨#[32]⟩ : ByteArray)) ++ t138) ++ (⟨#[32]⟩ : ByteArray)) ++ t139)) else (none))) else (none)) else (none)) = some r := H
                   have A28 := Aside0.mk A280
                   clear A280
                   by_cases c29 : (((((((((((((((((((⟨#[116, 97, 115, 107, 32]⟩ : ByteArray) ++ a0_0) ++ (⟨#[32]⟩ : ByteArray)) ++ t130) ++ (⟨#[32]⟩ : ByteArray)) ++ t131) ++ (⟨#[32]⟩ : ByteArray)) ++ t132) ++ (⟨#[32]⟩ : ByteArray)) ++ t133) ++ (⟨#[32]⟩ : ByteArray)) ++ t134) ++ (⟨#[32]⟩ : ByteArray)) ++ t135) ++ (⟨#[32]⟩ : ByteArray)) ++ t136) ++ (⟨#[32]⟩ : ByteArray)) ++ t137) ++ (⟨#[32]⟩ : ByteArray)).size + t138.size ≤ 9223372036854775807
                   ·rw [if_pos c29] at H
                    have c29b0 := eq_true c29
                    have c29b1 : decide ((((((((((((((((((((⟨#[116, 97, 115, 107, 32]⟩ : ByteArray) ++ a0_0) ++ (⟨#[32]⟩ : ByteArray)) ++ t130) ++ (⟨#[32]⟩ : ByteArray)) ++ t131) ++ (⟨#[32]⟩ : ByteArray)) ++ t132) ++ (⟨#[32]⟩ : ByteArray)) ++ t133) ++ (⟨#[32]⟩ : ByteArray)) ++ t134) ++ (⟨#[32]⟩ : ByteArray)) ++ t135) ++ (⟨#[32]⟩ : ByteArray)) ++ t136) ++ (⟨#[32]⟩ : ByteArray)) ++ t137) ++ (⟨#[32]⟩ : ByteArray)).size + t138.size ≤ 9223372036854775807) = true := decide_eq_true c29
                    try have c29b2 : (9223372036854775807 < (((((((((((((((((((⟨#[116, 97, 115, 107, 32]⟩ : ByteArray) ++ a0_0) ++ (⟨#[32]⟩ : ByteArray)) ++ t130) ++ (⟨#[32]⟩ : ByteArray)) ++ t131) ++ (⟨#[32]⟩ : ByteArray)) ++ t132) ++ (⟨#[32]⟩ : ByteArray)) ++ t133) ++ (⟨#[32]⟩ : ByteArray)) ++ t134) ++ (⟨#[32]⟩ : ByteArray)) ++ t135) ++ (⟨#[32]⟩ : ByteArray)) ++ t136) ++ (⟨#[32]⟩ : ByteArray)) ++ t137) ++ (⟨#[32]⟩ : ByteArray)).size + t138.size) = False := eq_false (Nat.not_lt.2 c29)
                    (try (have c29b7 := c29b2; simp only [ByteArray.size_append, show (⟨#[116, 97, 115, 107, 32]⟩ : ByteArray).size = 5 from rfl, show (⟨#[32]⟩ : ByteArray).size = 1 from rfl] at c29b7))
                    by_cases c30 : ((((((((((((((((((((⟨#[116, 97, 115, 107, 32]⟩ : ByteArray) ++ a0_0) ++ (⟨#[32]⟩ : ByteArray)) ++ t130) ++ (⟨#[32]⟩ : ByteArray)) ++ t131) ++ (⟨#[32]⟩ : ByteArray)) ++ t132) ++ (⟨#[32]⟩ : ByteArray)) ++ t133) ++ (⟨#[32]⟩ : ByteArray)) ++ t134) ++ (⟨#[32]⟩ : ByteArray)) ++ t135) ++ (⟨#[32]⟩ : ByteArray)) ++ t136) ++ (⟨#[32]⟩ : ByteArray)) ++ t137) ++ (⟨#[32]⟩ : ByteArray)) ++ t138).size + 1 ≤ 9223372036854775807
                    ·rw [if_pos c30] at H
                     have c30b0 := eq_true c30
                     have c30b1 : decide (((((((((((((((((((((⟨#[116, 97, 115, 107, 32]⟩ : ByteArray) ++ a0_0) ++ (⟨#[32]⟩ : ByteArray)) ++ t130) ++ (⟨#[32]⟩ : ByteArray)) ++ t131) ++ (⟨#[32]⟩ : ByteArray)) ++ t132) ++ (⟨#[32]⟩ : ByteArray)) ++ t133) ++ (⟨#[32]⟩ : ByteArray)) ++ t134) ++ (⟨#[32]⟩ : ByteArray)) ++ t135) ++ (⟨#[32]⟩ : ByteArray)) ++ t136) ++ (⟨#[32]⟩ : ByteArray)) ++ t137) ++ (⟨#[32]⟩ : ByteArray)) ++ t138).size + 1 ≤ 9223372036854775807) = true := decide_eq_true c30
                     try have c30b2 : (9223372036854775807 < ((((((((((((((((((((⟨#[116, 97, 115, 107, 32]⟩ : ByteArray) ++ a0_0) ++ (⟨#[32]⟩ : ByteArray)) ++ t130) ++ (⟨#[32]⟩ : ByteArray)) ++ t131) ++ (⟨#[32]⟩ : ByteArray)) ++ t132) ++ (⟨#[32]⟩ : ByteArray)) ++ t133) ++ (⟨#[32]⟩ : ByteArray)) ++ t134) ++ (⟨#[32]⟩ : ByteArray)) ++ t135) ++ (⟨#[32]⟩ : ByteArray)) ++ t136) ++ (⟨#[32]⟩ : ByteArray)) ++ t137) ++ (⟨#[32]⟩ : ByteArray)) ++ t138).size + 1) = False := eq_false (Nat.not_lt.2 c30)
                     (try (have c30b7 := c30b2; simp only [ByteArray.size_append, show (⟨#[116, 97, 115, 107, 32]⟩ : ByteArray).size = 5 from rfl, show (⟨#[32]⟩ : ByteArray).size = 1 from rfl] at c30b7))
                     replace H := Option.bind_eq_some_iff.mp H
                     obtain ⟨t139, A310, H⟩ := H
                     replace H : (if (((((((((((((((((((((⟨#[116, 97, 115, 107, 32]⟩ : ByteArray) ++ a0_0) ++ (⟨#[32]⟩ : ByteArray)) ++ t130) ++ (⟨#[32]⟩ : ByteArray)) ++ t131) ++ (⟨#[32]⟩ : ByteArray)) ++ t132) ++ (⟨#[32]⟩ : ByteArray)) ++ t133) ++ (⟨#[32]⟩ : ByteArray)) ++ t134) ++ (⟨#[32]⟩ : ByteArray)) ++ t135) ++ (⟨#[32]⟩ : ByteArray)) ++ t136) ++ (⟨#[32]⟩ : ByteArray)) ++ t137) ++ (⟨#[32]⟩ : ByteArray)) ++ t138) ++ (⟨#[32]⟩ : ByteArray)).size + t139.size ≤ 9223372036854775807 then (some ((((((((((((((((((((((⟨#[116, 97, 115, 107, 32]⟩ : ByteArray) ++ a0_0) ++ (⟨#[32]⟩ : ByteArray)) ++ t130) ++ (⟨#[32]⟩ : ByteArray)) ++ t131) ++ (⟨#[32]⟩ : ByteArray)) ++ t132) ++ (⟨#[32]⟩ : ByteArray)) ++ t133) ++ (⟨#[32]⟩ : ByteArray)) ++ t134) ++ (⟨#[32]⟩ : ByteArray)) ++ t135) ++ (⟨#[32]⟩ : ByteArray)) ++ t136) ++ (⟨#[32]⟩ : ByteArray)) ++ t137) ++ (⟨#[32]⟩ : ByteArray)) ++ t138) ++ (⟨#[32]⟩ : ByteArray)) ++ t139)) else (none)) = some r := H
                     have A31 := Aside0.mk A310
                     clear A310
                     by_cases c32 : (((((((((((((((((((((⟨#[116, 97, 115, 107, 32]⟩ : ByteArray) ++ a0_0) ++ (⟨#[32]⟩ : ByteArray)) ++ t130) ++ (⟨#[32]⟩ : ByteArray)) ++ t131) ++ (⟨#[32]⟩ : ByteArray)) ++ t132) ++ (⟨#[32]⟩ : ByteArray)) ++ t133) ++ (⟨#[32]⟩ : ByteArray)) ++ t134) ++ (⟨#[32]⟩ : ByteArray)) ++ t135) ++ (⟨#[32]⟩ : ByteArray)) ++ t136) ++ (⟨#[32]⟩ : ByteArray)) ++ t137) ++ (⟨#[32]⟩ : ByteArray)) ++ t138) ++ (⟨#[32]⟩ : ByteArray)).size + t139.size ≤ 9223372036854775807
                     ·rw [if_pos c32] at H
                      have c32b0 := eq_true c32
                      have c32b1 : decide ((((((((((((((((((((((⟨#[116, 97, 115, 107, 32]⟩ : ByteArray) ++ a0_0) ++ (⟨#[32]⟩ : ByteArray)) ++ t130) ++ (⟨#[32]⟩ : ByteArray)) ++ t131) ++ (⟨#[32]⟩ : ByteArray)) ++ t132) ++ (⟨#[32]⟩ : ByteArray)) ++ t133) ++ (⟨#[32]⟩ : ByteArray)) ++ t134) ++ (⟨#[32]⟩ : ByteArray)) ++ t135) ++ (⟨#[32]⟩ : ByteArray)) ++ t136) ++ (⟨#[32]⟩ : ByteArray)) ++ t137) ++ (⟨#[32]⟩ : ByteArray)) ++ t138) ++ (⟨#[32]⟩ : ByteArray)).size + t139.size ≤ 9223372036854775807) = true := decide_eq_true c32
                      try have c32b2 : (9223372036854775807 < (((((((((((((((((((((⟨#[116, 97, 115, 107, 32]⟩ : ByteArray) ++ a0_0) ++ (⟨#[32]⟩ : ByteArray)) ++ t130) ++ (⟨#[32]⟩ : ByteArray)) ++ t131) ++ (⟨#[32]⟩ : ByteArray)) ++ t132) ++ (⟨#[32]⟩ : ByteArray)) ++ t133) ++ (⟨#[32]⟩ : ByteArray)) ++ t134) ++ (⟨#[32]⟩ : ByteArray)) ++ t135) ++ (⟨#[32]⟩ : ByteArray)) ++ t136) ++ (⟨#[32]⟩ : ByteArray)) ++ t137) ++ (⟨#[32]⟩ : ByteArray)) ++ t138) ++ (⟨#[32]⟩ : ByteArray)).size + t139.size) = False := eq_false (Nat.not_lt.2 c32)
                      (try (have c32b7 := c32b2; simp only [ByteArray.size_append, show (⟨#[116, 97, 115, 107, 32]⟩ : ByteArray).size = 5 from rfl, show (⟨#[32]⟩ : ByteArray).size = 1 from rfl] at c32b7))
                      obtain rfl := Option.some.inj H
                      go_enter Tryd.func11, Tryd.ntmps11
                      try go_wp2_with (first | ((with_reducible refine gate_dst (N := 1) rfl ?_); refine box_event ?hg (N := 1) ?hd (cs := #[.string a0_0, .int .i64 a0_1, .int .i64 a0_2, .int .i64 a0_3, .int .i64 a0_4, .int .i64 a0_5, .int .i64 a0_6, .int .i64 a0_7, .int .i64 a0_8, .int .i64 a0_9, .int .i64 a0_10]) (t := 26) ?hr ?_; (case hd => rfl); (case hg => rfl); (case hr => first | (go_simp; done) | (go_simp; rfl)); intro gb129 hg w33 hbox hb; have n0_ := Aside0.mk (below_step (by repeat (first | (with_reducible first | exact HB.out | apply below_alloc | apply pw_below_drewN | apply below_drew1) | exact HB.out)) hb); have n1_ := Aside0.mk (hbox); have n2_ := Aside0.mk ((by rw [hg]; exact (below_size (by repeat (first | (with_reducible first | exact HB.out | apply below_alloc | apply pw_below_drewN | apply below_drew1) | exact HB.out))) : w.heap.size ≤ gb129)); have n3_ := Aside0.mk ((by rw [hg]; exact (below_size (by repeat (first | (with_reducible first | exact HB.out | apply below_alloc | apply pw_below_drewN | apply below_drew1) | exact HB.out))) : w.heap.size ≤ gb129)); clear HB; have HB := n0_; have BK129 := n1_; have GW129 := n2_; have GE129 := n3_; clear n0_ n1_ n2_ n3_; clear hb hbox hg))
                      have n0_ := Aside0.mk (blk_drew BK129.out)
                      have n1_ := Aside0.mk (below_drew1 HB.out)
                      clear BK129
                      clear HB
                      have BK129 := n0_
                      have HB := n1_
                      clear n0_ n1_
                      refine start_ (n := 24) (S := fun w' => w'.cell? ⟨gb129, 0, none⟩ = some (.string a0_0) ∧ w'.cell? ⟨gb129, 1, none⟩ = some (.int .i64 a0_1) ∧ w'.cell? ⟨gb129, 2, none⟩ = some (.int .i64 a0_2) ∧ w'.cell? ⟨gb129, 3, none⟩ = some (.int .i64 a0_3) ∧ w'.cell? ⟨gb129, 4, none⟩ = some (.int .i64 a0_4) ∧ w'.cell? ⟨gb129, 5, none⟩ = some (.int .i64 a0_5) ∧ w'.cell? ⟨gb129, 6, none⟩ = some (.int .i64 a0_6) ∧ w'.cell? ⟨gb129, 7, none⟩ = some (.int .i64 a0_7) ∧ w'.cell? ⟨gb129, 8, none⟩ = some (.int .i64 a0_8) ∧ w'.cell? ⟨gb129, 9, none⟩ = some (.int .i64 a0_9) ∧ w'.cell? ⟨gb129, 10, none⟩ = some (.int .i64 a0_10)) (ds := []) #[false, false, false, false, false, false, false, false, false, false, false, false, false, false, false, false, false, false, false, false, false, false, false, false] (by kernel_rfl) rfl rfl ⟨(blk_cell BK129.out 0).trans rfl, (blk_cell BK129.out 1).trans rfl, (blk_cell BK129.out 2).trans rfl, (blk_cell BK129.out 3).trans rfl, (blk_cell BK129.out 4).trans rfl, (blk_cell BK129.out 5).trans rfl, (blk_cell BK129.out 6).trans rfl, (blk_cell BK129.out 7).trans rfl, (blk_cell BK129.out 8).trans rfl, (blk_cell BK129.out 9).trans rfl, (blk_cell BK129.out 10).trans rfl⟩ (fun hHeld => ?_); refine with_tabW pendulumref07_Task.tab1 pendulumref07_Task.bits1 (fun HT_ HW_ => ?_)
                      generalize w33.drew = w34 at BK129 HB hHeld ⊢
                      refine pure_ (i := 0) (N := some 4) (v := ?_) (a' := ?_) #[true, false, false, false, false, false, false, false, false, false, false, false, false, false, false, false, false, false, false, false, false, false, false, false] rfl rfl (any_of HT_.out (by kernel_rfl)) (fun _ _ _ h => h) (Or.inl ⟨by rfl, ?_⟩) ?_ ?_
                      rotate_left
                      ·intro w'
                       go_simp
                       with_reducible rfl
                      rotate_left
                      ·simp only [Act.put, List.setIfInBounds_toArray, List.set_cons_zero, List.set_cons_succ, i64_w, i32_w]
                       rfl
                      refine pure_ (i := 4) (N := some 8) (v := ?_) (a' := ?_) #[true, false, false, false, true, false, false, false, false, false, false, false, false, false, false, false, false, false, false, false, false, false, false, false] rfl rfl (any_of HT_.out (by kernel_rfl)) (fun _ _ _ h => h) (Or.inl ⟨by rfl, ?_⟩) ?_ ?_
                      rotate_left
                      ·intro w'
                       go_simp
                       with_reducible rfl
                      rotate_left
                      ·simp only [Act.put, List.setIfInBounds_toArray, List.set_cons_zero, List.set_cons_succ, i64_w, i32_w]
                       rfl
                      refine pure_ (i := 9) (N := some 13) (v := ?_) (a' := ?_) #[true, false, false, false, true, false, false, false, false, true, false, false, false, false, false, false, false, false, false, false, false, false, false, false] rfl rfl (any_of HT_.out (by kernel_rfl)) (fun _ _ _ h => h) (Or.inl ⟨by rfl, ?_⟩) ?_ ?_
                      rotate_left
                      ·intro w'
                       go_simp
                       with_reducible rfl
                      rotate_left
                      ·simp only [Act.put, List.setIfInBounds_toArray, List.set_cons_zero, List.set_cons_succ, i64_w, i32_w]
                       rfl
                      refine pure_ (i := 14) (N := some 18) (v := ?_) (a' := ?_) #[true, false, false, false, true, false, false, false, false, true, false, false, false, false, true, false, false, false, false, false, false, false, false, false] rfl rfl (any_of HT_.out (by kernel_rfl)) (fun _ _ _ h => h) (Or.inl ⟨by rfl, ?_⟩) ?_ ?_
                      rotate_left
                      ·intro w'
                       go_simp
                       with_reducible rfl
                      rotate_left
                      ·simp only [Act.put, List.setIfInBounds_toArray, List.set_cons_zero, List.set_cons_succ, i64_w, i32_w]
                       rfl
                      refine pure_ (i := 19) (N := some 23) (v := ?_) (a' := ?_) #[true, false, false, false, true, false, false, false, false, true, false, false, false, false, true, false, false, false, false, true, false, false, false, false] rfl rfl (any_of HT_.out (by kernel_rfl)) (fun _ _ _ h => h) (Or.inl ⟨by rfl, ?_⟩) ?_ ?_
                      rotate_left
                      ·intro w'
                       go_simp
                       with_reducible rfl
                      rotate_left
                      ·simp only [Act.put, List.setIfInBounds_toArray, List.set_cons_zero, List.set_cons_succ, i64_w, i32_w]
                       rfl
                      refine take_ (i := 1) (N := some 5) (v := ?_) (a' := ?_) #[true, true, false, false, true, false, false, false, false, true, false, false, false, false, true, false, false, false, false, true, false, false, false, false] rfl rfl (take_ofW HT_.out HW_.out (by kernel_rfl)) (fun _ _ _ h => h) (Or.inl ⟨by rfl, ?_⟩) hHeld ?_ ?_
                      rotate_left
                      ·rintro w' ⟨s0, s1, s2, s3, s4, s5, s6, s7, s8, s9, s10⟩
                       go_simp
                       with_reducible rfl
                      rotate_left
                      ·simp only [Act.put, List.setIfInBounds_toArray, List.set_cons_zero, List.set_cons_succ, i64_w, i32_w]
                       rfl
                      refine pure_ (i := 2) (N := some 6) (v := ?_) (a' := ?_) #[true, true, true, false, true, false, false, false, false, true, false, false, false, false, true, false, false, false, false, true, false, false, false, false] rfl rfl (any_of HT_.out (by kernel_rfl)) (fun _ _ _ h => h) (Or.inl ⟨by rfl, ?_⟩) ?_ ?_
                      rotate_left
                      ·intro w'
                       go_simp
                       with_reducible rfl
                      rotate_left
                      ·simp only [Act.put, List.setIfInBounds_toArray, List.set_cons_zero, List.set_cons_succ, i64_w, i32_w]
                       rfl
                      refine pure_ (i := 3) (N := some 7) (v := ?_) (a' := ?_) #[true, true, true, true, true, false, false, false, false, true, false, false, false, false, true, false, false, false, false, true, false, false, false, false] rfl rfl (any_of HT_.out (by kernel_rfl)) (fun _ _ _ h => h) (Or.inl ⟨by rfl, ?_⟩) ?_ ?_
                      rotate_left
                      ·intro w'
                       go_simp
                       with_reducible rfl
                      rotate_left
                      ·simp only [Act.put, List.setIfInBounds_toArray, List.set_cons_zero, List.set_cons_succ, i64_w, i32_w]
                       rfl
                      refine take_ (i := 5) (N := some 9) (v := ?_) (a' := ?_) #[true, true, true, true, true, true, false, false, false, true, false, false, false, false, true, false, false, false, false, true, false, false, false, false] rfl rfl (take_ofW HT_.out HW_.out (by kernel_rfl)) (fun _ _ _ h => h) (Or.inl ⟨by rfl, ?_⟩) hHeld ?_ ?_
                      rotate_left
                      ·rintro w' ⟨s0, s1, s2, s3, s4, s5, s6, s7, s8, s9, s10⟩
                       go_simp
                       with_reducible rfl
                      rotate_left
                      ·simp only [Act.put, List.setIfInBounds_toArray, List.set_cons_zero, List.set_cons_succ, i64_w, i32_w]
                       rfl
                      refine take_ (i := 10) (N := some 14) (v := ?_) (a' := ?_) #[true, true, true, true, true, true, false, false, false, true, true, false, false, false, true, false, false, false, false, true, false, false, false, false] rfl rfl (take_ofW HT_.out HW_.out (by kernel_rfl)) (fun _ _ _ h => h) (Or.inl ⟨by rfl, ?_⟩) hHeld ?_ ?_
                      rotate_left
                      ·rintro w' ⟨s0, s1, s2, s3, s4, s5, s6, s7, s8, s9, s10⟩
                       go_simp
                       with_reducible rfl
                      rotate_left
                      ·simp only [Act.put, List.setIfInBounds_toArray, List.set_cons_zero, List.set_cons_succ, i64_w, i32_w]
                       rfl
                      refine take_ (i := 15) (N := some 19) (v := ?_) (a' := ?_) #[true, true, true, true, true, true, false, false, false, true, true, false, false, false, true, true, false, false, false, true, false, false, false, false] rfl rfl (take_ofW HT_.out HW_.out (by kernel_rfl)) (fun _ _ _ h => h) (Or.inl ⟨by rfl, ?_⟩) hHeld ?_ ?_
                      rotate_left
                      ·rintro w' ⟨s0, s1, s2, s3, s4, s5, s6, s7, s8, s9, s10⟩
                       go_simp
                       with_reducible rfl
                      rotate_left
                      ·simp only [Act.put, List.setIfInBounds_toArray, List.set_cons_zero, List.set_cons_succ, i64_w, i32_w]
                       rfl
                      refine take_ (i := 20) (N := some 24) (v := ?_) (a' := ?_) #[true, true, true, true, true, true, false, false, false, true, true, false, false, false, true, true, false, false, false, true, true, false, false, false] rfl rfl (take_ofW HT_.out HW_.out (by kernel_rfl)) (fun _ _ _ h => h) (Or.inl ⟨by rfl, ?_⟩) hHeld ?_ ?_
                      rotate_left
                      ·rintro w' ⟨s0, s1, s2, s3, s4, s5, s6, s7, s8, s9, s10⟩
                       go_simp
                       with_reducible rfl
                      rotate_left
                      ·simp only [Act.put, List.setIfInBounds_toArray, List.set_cons_zero, List.set_cons_succ, i64_w, i32_w]
                       rfl
                      refine one_ (i := 6) (N := some 10) #[true, true, true, true, true, true, true, false, false, true, true, false, false, false, true, true, false, false, false, true, true, false, false, false] rfl rfl (one_of HT_.out (by kernel_rfl)) (by decide) (fun K hK => ?_)
                      refine goes_ Tryd.func23 (by kernel_rfl) rfl #[.int .i64 a0_1] (by rfl) rfl rfl (by (try simp only [List.map_toArray, List.map_cons, List.map_nil]); first | done | rfl | (simp only [List.length_drop, List.length_take]; rfl)) ?_
                      with_reducible refine (pendulumref07_Number.calls k a0_1 t130 _ A4.out).mono ?_
                      rintro e w35 ⟨rfl, hb⟩
                      refine ⟨_, rfl, ?_⟩
                      have n0_ := Aside0.mk (blk_below (g := gb129) (o := .cells #[.string a0_0, .int .i64 a0_1, .int .i64 a0_2, .int .i64 a0_3, .int .i64 a0_4, .int .i64 a0_5, .int .i64 a0_6, .int .i64 a0_7, .int .i64 a0_8, .int .i64 a0_9, .int .i64 a0_10] 26 (0, 0)) (by (with_reducible repeat (first | refine blk_drewN ?_ _ | refine blk_drew ?_ | refine blk_alloc ?_ _)); exact BK129.out) hb)
                      have n1_ := Aside0.mk (below_step (by repeat (first | (with_reducible first | exact HB.out | apply below_alloc | apply pw_below_drewN | apply below_drew1 | refine below_set ?_ GE129.out) | exact HB.out)) hb)
                      clear BK129
                      clear HB
                      have BK129 := n0_
                      have HB := n1_
                      clear n0_ n1_
                      (try clear hb)
                      (try clear hb2)
                      (try clear hk)
                      (try clear hi)
                      refine hK.out _ _ ⟨(blk_cell BK129.out 0).trans rfl, (blk_cell BK129.out 1).trans rfl, (blk_cell BK129.out 2).trans rfl, (blk_cell BK129.out 3).trans rfl, (blk_cell BK129.out 4).trans rfl, (blk_cell BK129.out 5).trans rfl, (blk_cell BK129.out 6).trans rfl, (blk_cell BK129.out 7).trans rfl, (blk_cell BK129.out 8).trans rfl, (blk_cell BK129.out 9).trans rfl, (blk_cell BK129.out 10).trans rfl⟩ (fun hHeld => ?_)
                      clear hK K
                      refine norm_ (a' := ?_) ?_ ?_
                      rotate_left
                      ·show Act.put _ (some 10) _ = _
                       simp only [Act.put, List.setIfInBounds_toArray, List.set_cons_zero, List.set_cons_succ, i64_w, i32_w]
                       rfl
                      refine pure_ (i := 7) (N := some 11) (v := ?_) (a' := ?_) #[true, true, true, true, true, true, true, true, false, true, true, false, false, false, true, true, false, false, false, true, true, false, false, false] rfl rfl (any_of HT_.out (by kernel_rfl)) (fun _ _ _ h => h) (Or.inl ⟨by rfl, ?_⟩) ?_ ?_
                      rotate_left
                      ·intro w'
                       go_simp
                       with_reducible rfl
                      rotate_left
                      ·simp only [Act.put, List.setIfInBounds_toArray, List.set_cons_zero, List.set_cons_succ, i64_w, i32_w]
                       rfl
                      refine pure_ (i := 8) (N := some 12) (v := ?_) (a' := ?_) #[true, true, true, true, true, true, true, true, true, true, true, false, false, false, true, true, false, false, false, true, true, false, false, false] rfl rfl (any_of HT_.out (by kernel_rfl)) (fun _ _ _ h => h) (Or.inl ⟨by rfl, ?_⟩) ?_ ?_
                      rotate_left
                      ·intro w'
                       go_simp
                       with_reducible rfl
                      rotate_left
                      ·simp only [Act.put, List.setIfInBounds_toArray, List.set_cons_zero, List.set_cons_succ, i64_w, i32_w]
                       rfl
                      refine one_ (i := 11) (N := some 15) #[true, true, true, true, true, true, true, true, true, true, true, true, false, false, true, true, false, false, false, true, true, false, false, false] rfl rfl (one_of HT_.out (by kernel_rfl)) (by decide) (fun K hK => ?_)
                      refine goes_ Tryd.func23 (by kernel_rfl) rfl #[.int .i64 a0_2] (by rfl) rfl rfl (by (try simp only [List.map_toArray, List.map_cons, List.map_nil]); first | done | rfl | (simp only [List.length_drop, List.length_take]; rfl)) ?_
                      with_reducible refine (pendulumref07_Number.calls k a0_2 t131 _ A7.out).mono ?_
                      rintro e w36 ⟨rfl, hb⟩
                      refine ⟨_, rfl, ?_⟩
                      have n0_ := Aside0.mk (blk_below (g := gb129) (o := .cells #[.string a0_0, .int .i64 a0_1, .int .i64 a0_2, .int .i64 a0_3, .int .i64 a0_4, .int .i64 a0_5, .int .i64 a0_6, .int .i64 a0_7, .int .i64 a0_8, .int .i64 a0_9, .int .i64 a0_10] 26 (0, 0)) (by (with_reducible repeat (first | refine blk_drewN ?_ _ | refine blk_drew ?_ | refine blk_alloc ?_ _)); exact BK129.out) hb)
                      have n1_ := Aside0.mk (below_step (by repeat (first | (with_reducible first | exact HB.out | apply below_alloc | apply pw_below_drewN | apply below_drew1 | refine below_set ?_ GE129.out) | exact HB.out)) hb)
                      clear BK129
                      clear HB
                      have BK129 := n0_
                      have HB := n1_
                      clear n0_ n1_
                      (try clear hb)
                      (try clear hb2)
                      (try clear hk)
                      (try clear hi)
                      refine hK.out _ _ ⟨(blk_cell BK129.out 0).trans rfl, (blk_cell BK129.out 1).trans rfl, (blk_cell BK129.out 2).trans rfl, (blk_cell BK129.out 3).trans rfl, (blk_cell BK129.out 4).trans rfl, (blk_cell BK129.out 5).trans rfl, (blk_cell BK129.out 6).trans rfl, (blk_cell BK129.out 7).trans rfl, (blk_cell BK129.out 8).trans rfl, (blk_cell BK129.out 9).trans rfl, (blk_cell BK129.out 10).trans rfl⟩ (fun hHeld => ?_)
                      clear hK K
                      refine norm_ (a' := ?_) ?_ ?_
                      rotate_left
                      ·show Act.put _ (some 15) _ = _
                       simp only [Act.put, List.setIfInBounds_toArray, List.set_cons_zero, List.set_cons_succ, i64_w, i32_w]
                       rfl
                      refine pure_ (i := 12) (N := some 16) (v := ?_) (a' := ?_) #[true, true, true, true, true, true, true, true, true, true, true, true, true, false, true, true, false, false, false, true, true, false, false, false] rfl rfl (any_of HT_.out (by kernel_rfl)) (fun _ _ _ h => h) (Or.inl ⟨by rfl, ?_⟩) ?_ ?_
                      rotate_left
                      ·intro w'
                       go_simp
                       with_reducible rfl
                      rotate_left
                      ·simp only [Act.put, List.setIfInBounds_toArray, List.set_cons_zero, List.set_cons_succ, i64_w, i32_w]
                       rfl
                      refine pure_ (i := 13) (N := some 17) (v := ?_) (a' := ?_) #[true, true, true, true, true, true, true, true, true, true, true, true, true, true, true, true, false, false, false, true, true, false, false, false] rfl rfl (any_of HT_.out (by kernel_rfl)) (fun _ _ _ h => h) (Or.inl ⟨by rfl, ?_⟩) ?_ ?_
                      rotate_left
                      ·intro w'
                       go_simp
                       with_reducible rfl
                      rotate_left
                      ·simp only [Act.put, List.setIfInBounds_toArray, List.set_cons_zero, List.set_cons_succ, i64_w, i32_w]
                       rfl
                      refine one_ (i := 16) (N := some 20) #[true, true, true, true, true, true, true, true, true, true, true, true, true, true, true, true, true, false, false, true, true, false, false, false] rfl rfl (one_of HT_.out (by kernel_rfl)) (by decide) (fun K hK => ?_)
                      refine goes_ Tryd.func23 (by kernel_rfl) rfl #[.int .i64 a0_3] (by rfl) rfl rfl (by (try simp only [List.map_toArray, List.map_cons, List.map_nil]); first | done | rfl | (simp only [List.length_drop, List.length_take]; rfl)) ?_
                      with_reducible refine (pendulumref07_Number.calls k a0_3 t132 _ A10.out).mono ?_
                      rintro e w37 ⟨rfl, hb⟩
                      refine ⟨_, rfl, ?_⟩
                      have n0_ := Aside0.mk (blk_below (g := gb129) (o := .cells #[.string a0_0, .int .i64 a0_1, .int .i64 a0_2, .int .i64 a0_3, .int .i64 a0_4, .int .i64 a0_5, .int .i64 a0_6, .int .i64 a0_7, .int .i64 a0_8, .int .i64 a0_9, .int .i64 a0_10] 26 (0, 0)) (by (with_reducible repeat (first | refine blk_drewN ?_ _ | refine blk_drew ?_ | refine blk_alloc ?_ _)); exact BK129.out) hb)
                      have n1_ := Aside0.mk (below_step (by repeat (first | (with_reducible first | exact HB.out | apply below_alloc | apply pw_below_drewN | apply below_drew1 | refine below_set ?_ GE129.out) | exact HB.out)) hb)
                      clear BK129
                      clear HB
                      have BK129 := n0_
                      have HB := n1_
                      clear n0_ n1_
                      (try clear hb)
                      (try clear hb2)
                      (try clear hk)
                      (try clear hi)
                      refine hK.out _ _ ⟨(blk_cell BK129.out 0).trans rfl, (blk_cell BK129.out 1).trans rfl, (blk_cell BK129.out 2).trans rfl, (blk_cell BK129.out 3).trans rfl, (blk_cell BK129.out 4).trans rfl, (blk_cell BK129.out 5).trans rfl, (blk_cell BK129.out 6).trans rfl, (blk_cell BK129.out 7).trans rfl, (blk_cell BK129.out 8).trans rfl, (blk_cell BK129.out 9).trans rfl, (blk_cell BK129.out 10).trans rfl⟩ (fun hHeld => ?_)
                      clear hK K
                      refine norm_ (a' := ?_) ?_ ?_
                      rotate_left
                      ·show Act.put _ (some 20) _ = _
                       simp only [Act.put, List.setIfInBounds_toArray, List.set_cons_zero, List.set_cons_succ, i64_w, i32_w]
                       rfl
                      refine pure_ (i := 17) (N := some 21) (v := ?_) (a' := ?_) #[true, true, true, true, true, true, true, true, true, true, true, true, true, true, true, true, true, true, false, true, true, false, false, false] rfl rfl (any_of HT_.out (by kernel_rfl)) (fun _ _ _ h => h) (Or.inl ⟨by rfl, ?_⟩) ?_ ?_
                      rotate_left
                      ·intro w'
                       go_simp
                       with_reducible rfl
                      rotate_left
                      ·simp only [Act.put, List.setIfInBounds_toArray, List.set_cons_zero, List.set_cons_succ, i64_w, i32_w]
                       rfl
                      refine pure_ (i := 18) (N := some 22) (v := ?_) (a' := ?_) #[true, true, true, true, true, true, true, true, true, true, true, true, true, true, true, true, true, true, true, true, true, false, false, false] rfl rfl (any_of HT_.out (by kernel_rfl)) (fun _ _ _ h => h) (Or.inl ⟨by rfl, ?_⟩) ?_ ?_
                      rotate_left
                      ·intro w'
                       go_simp
                       with_reducible rfl
                      rotate_left
                      ·simp only [Act.put, List.setIfInBounds_toArray, List.set_cons_zero, List.set_cons_succ, i64_w, i32_w]
                       rfl
                      refine one_ (i := 21) (N := some 25) #[true, true, true, true, true, true, true, true, true, true, true, true, true, true, true, true, true, true, true, true, true, true, false, false] rfl rfl (one_of HT_.out (by kernel_rfl)) (by decide) (fun K hK => ?_)
                      refine goes_ Tryd.func13 (by kernel_rfl) rfl #[.int .i64 a0_9] (by rfl) rfl rfl (by (try simp only [List.map_toArray, List.map_cons, List.map_nil]); first | done | rfl | (simp only [List.length_drop, List.length_take]; rfl)) ?_
                      with_reducible refine (pendulumref07_Mode.calls a0_9 t133 _ A13.out).mono ?_
                      rintro e w38 ⟨rfl, hb⟩
                      refine ⟨_, rfl, ?_⟩
                      have n0_ := Aside0.mk (blk_below (g := gb129) (o := .cells #[.string a0_0, .int .i64 a0_1, .int .i64 a0_2, .int .i64 a0_3, .int .i64 a0_4, .int .i64 a0_5, .int .i64 a0_6, .int .i64 a0_7, .int .i64 a0_8, .int .i64 a0_9, .int .i64 a0_10] 26 (0, 0)) (by (with_reducible repeat (first | refine blk_drewN ?_ _ | refine blk_drew ?_ | refine blk_alloc ?_ _)); exact BK129.out) hb)
                      have n1_ := Aside0.mk (below_step (by repeat (first | (with_reducible first | exact HB.out | apply below_alloc | apply pw_below_drewN | apply below_drew1 | refine below_set ?_ GE129.out) | exact HB.out)) hb)
                      clear BK129
                      clear HB
                      have BK129 := n0_
                      have HB := n1_
                      clear n0_ n1_
                      (try clear hb)
                      (try clear hb2)
                      (try clear hk)
                      (try clear hi)
                      refine hK.out _ _ ⟨(blk_cell BK129.out 0).trans rfl, (blk_cell BK129.out 1).trans rfl, (blk_cell BK129.out 2).trans rfl, (blk_cell BK129.out 3).trans rfl, (blk_cell BK129.out 4).trans rfl, (blk_cell BK129.out 5).trans rfl, (blk_cell BK129.out 6).trans rfl, (blk_cell BK129.out 7).trans rfl, (blk_cell BK129.out 8).trans rfl, (blk_cell BK129.out 9).trans rfl, (blk_cell BK129.out 10).trans rfl⟩ (fun hHeld => ?_)
                      clear hK K
                      refine norm_ (a' := ?_) ?_ ?_
                      rotate_left
                      ·show Act.put _ (some 25) _ = _
                       simp only [Act.put, List.setIfInBounds_toArray, List.set_cons_zero, List.set_cons_succ, i64_w, i32_w]
                       rfl
                      refine pure_ (i := 22) (N := some 26) (v := ?_) (a' := ?_) #[true, true, true, true, true, true, true, true, true, true, true, true, true, true, true, true, true, true, true, true, true, true, true, false] rfl rfl (any_of HT_.out (by kernel_rfl)) (fun _ _ _ h => h) (Or.inl ⟨by rfl, ?_⟩) ?_ ?_
                      rotate_left
                      ·intro w'
                       go_simp
                       with_reducible rfl
                      rotate_left
                      ·simp only [Act.put, List.setIfInBounds_toArray, List.set_cons_zero, List.set_cons_succ, i64_w, i32_w]
                       rfl
                      refine pure_ (i := 23) (N := some 3) (v := ?_) (a' := ?_) #[true, true, true, true, true, true, true, true, true, true, true, true, true, true, true, true, true, true, true, true, true, true, true, true] rfl rfl (any_of HT_.out (by kernel_rfl)) (fun _ _ _ h => h) (Or.inl ⟨by rfl, ?_⟩) ?_ ?_
                      rotate_left
                      ·intro w'
                       go_simp
                       with_reducible rfl
                      rotate_left
                      ·simp only [Act.put, List.setIfInBounds_toArray, List.set_cons_zero, List.set_cons_succ, i64_w, i32_w]
                       rfl
                      refine done_ (done_of HT_.out (by kernel_rfl)) ?_
                      try go_wp2
                      have n0_ := Aside0.mk (blk_drew BK129.out)
                      have n1_ := Aside0.mk (below_drew1 HB.out)
                      clear BK129
                      clear HB
                      have BK129 := n0_
                      have HB := n1_
                      clear n0_ n1_
                      refine start_ (n := 32) (S := fun w' => w'.cell? ⟨gb129, 0, none⟩ = some (.string a0_0) ∧ w'.cell? ⟨gb129, 1, none⟩ = some (.int .i64 a0_1) ∧ w'.cell? ⟨gb129, 2, none⟩ = some (.int .i64 a0_2) ∧ w'.cell? ⟨gb129, 3, none⟩ = some (.int .i64 a0_3) ∧ w'.cell? ⟨gb129, 4, none⟩ = some (.int .i64 a0_4) ∧ w'.cell? ⟨gb129, 5, none⟩ = some (.int .i64 a0_5) ∧ w'.cell? ⟨gb129, 6, none⟩ = some (.int .i64 a0_6) ∧ w'.cell? ⟨gb129, 7, none⟩ = some (.int .i64 a0_7) ∧ w'.cell? ⟨gb129, 8, none⟩ = some (.int .i64 a0_8) ∧ w'.cell? ⟨gb129, 9, none⟩ = some (.int .i64 a0_9) ∧ w'.cell? ⟨gb129, 10, none⟩ = some (.int .i64 a0_10)) (ds := []) #[false, false, false, false, false, false, false, false, false, false, false, false, false, false, false, false, false, false, false, false, false, false, false, false, false, false, false, false, false, false, false, false] (by kernel_rfl) rfl rfl ⟨(blk_cell BK129.out 0).trans rfl, (blk_cell BK129.out 1).trans rfl, (blk_cell BK129.out 2).trans rfl, (blk_cell BK129.out 3).trans rfl, (blk_cell BK129.out 4).trans rfl, (blk_cell BK129.out 5).trans rfl, (blk_cell BK129.out 6).trans rfl, (blk_cell BK129.out 7).trans rfl, (blk_cell BK129.out 8).trans rfl, (blk_cell BK129.out 9).trans rfl, (blk_cell BK129.out 10).trans rfl⟩ (fun hHeld => ?_); refine with_tabW pendulumref07_Task.tab2 pendulumref07_Task.bits2 (fun HT_ HW_ => ?_)
                      generalize w38.drew = w39 at BK129 HB hHeld ⊢
                      refine pure_ (i := 0) (N := some 27) (v := ?_) (a' := ?_) #[true, false, false, false, false, false, false, false, false, false, false, false, false, false, false, false, false, false, false, false, false, false, false, false, false, false, false, false, false, false, false, false] rfl rfl (any_of HT_.out (by kernel_rfl)) (fun _ _ _ h => h) (Or.inl ⟨by rfl, ?_⟩) ?_ ?_
                      rotate_left
                      ·intro w'
                       go_simp
                       with_reducible rfl
                      rotate_left
                      ·simp only [Act.put, List.setIfInBounds_toArray, List.set_cons_zero, List.set_cons_succ, i64_w, i32_w]
                       rfl
                      refine pure_ (i := 1) (N := some 28) (v := ?_) (a' := ?_) #[true, true, false, false, false, false, false, false, false, false, false, false, false, false, false, false, false, false, false, false, false, false, false, false, false, false, false, false, false, false, false, false] rfl rfl (any_of HT_.out (by kernel_rfl)) (fun _ _ _ h => h) (Or.inl ⟨by rfl, ?_⟩) ?_ ?_
                      rotate_left
                      ·intro w'
                       go_simp
                       with_reducible rfl
                      rotate_left
                      ·simp only [Act.put, List.setIfInBounds_toArray, List.set_cons_zero, List.set_cons_succ, i64_w, i32_w]
                       rfl
                      refine pure_ (i := 2) (N := some 29) (v := ?_) (a' := ?_) #[true, true, true, false, false, false, false, false, false, false, false, false, false, false, false, false, false, false, false, false, false, false, false, false, false, false, false, false, false, false, false, false] rfl rfl (any_of HT_.out (by kernel_rfl)) (fun _ _ _ h => h) (Or.inl ⟨by rfl, ?_⟩) ?_ ?_
                      rotate_left
                      ·intro w'
                       go_simp
                       with_reducible rfl
                      rotate_left
                      ·simp only [Act.put, List.setIfInBounds_toArray, List.set_cons_zero, List.set_cons_succ, i64_w, i32_w]
                       rfl
                      refine pure_ (i := 7) (N := some 34) (v := ?_) (a' := ?_) #[true, true, true, false, false, false, false, true, false, false, false, false, false, false, false, false, false, false, false, false, false, false, false, false, false, false, false, false, false, false, false, false] rfl rfl (any_of HT_.out (by kernel_rfl)) (fun _ _ _ h => h) (Or.inl ⟨by rfl, ?_⟩) ?_ ?_
                      rotate_left
                      ·intro w'
                       go_simp
                       with_reducible rfl
                      rotate_left
                      ·simp only [Act.put, List.setIfInBounds_toArray, List.set_cons_zero, List.set_cons_succ, i64_w, i32_w]
                       rfl
                      refine pure_ (i := 12) (N := some 39) (v := ?_) (a' := ?_) #[true, true, true, false, false, false, false, true, false, false, false, false, true, false, false, false, false, false, false, false, false, false, false, false, false, false, false, false, false, false, false, false] rfl rfl (any_of HT_.out (by kernel_rfl)) (fun _ _ _ h => h) (Or.inl ⟨by rfl, ?_⟩) ?_ ?_
                      rotate_left
                      ·intro w'
                       go_simp
                       with_reducible rfl
                      rotate_left
                      ·simp only [Act.put, List.setIfInBounds_toArray, List.set_cons_zero, List.set_cons_succ, i64_w, i32_w]
                       rfl
                      refine pure_ (i := 17) (N := some 44) (v := ?_) (a' := ?_) #[true, true, true, false, false, false, false, true, false, false, false, false, true, false, false, false, false, true, false, false, false, false, false, false, false, false, false, false, false, false, false, false] rfl rfl (any_of HT_.out (by kernel_rfl)) (fun _ _ _ h => h) (Or.inl ⟨by rfl, ?_⟩) ?_ ?_
                      rotate_left
                      ·intro w'
                       go_simp
                       with_reducible rfl
                      rotate_left
                      ·simp only [Act.put, List.setIfInBounds_toArray, List.set_cons_zero, List.set_cons_succ, i64_w, i32_w]
                       rfl
                      refine pure_ (i := 22) (N := some 49) (v := ?_) (a' := ?_) #[true, true, true, false, false, false, false, true, false, false, false, false, true, false, false, false, false, true, false, false, false, false, true, false, false, false, false, false, false, false, false, false] rfl rfl (any_of HT_.out (by kernel_rfl)) (fun _ _ _ h => h) (Or.inl ⟨by rfl, ?_⟩) ?_ ?_
                      rotate_left
                      ·intro w'
                       go_simp
                       with_reducible rfl
                      rotate_left
                      ·simp only [Act.put, List.setIfInBounds_toArray, List.set_cons_zero, List.set_cons_succ, i64_w, i32_w]
                       rfl
                      refine pure_ (i := 27) (N := some 54) (v := ?_) (a' := ?_) #[true, true, true, false, false, false, false, true, false, false, false, false, true, false, false, false, false, true, false, false, false, false, true, false, false, false, false, true, false, false, false, false] rfl rfl (any_of HT_.out (by kernel_rfl)) (fun _ _ _ h => h) (Or.inl ⟨by rfl, ?_⟩) ?_ ?_
                      rotate_left
                      ·intro w'
                       go_simp
                       with_reducible rfl
                      rotate_left
                      ·simp only [Act.put, List.setIfInBounds_toArray, List.set_cons_zero, List.set_cons_succ, i64_w, i32_w]
                       rfl
                      refine take_ (i := 3) (N := some 30) (v := ?_) (a' := ?_) #[true, true, true, true, false, false, false, true, false, false, false, false, true, false, false, false, false, true, false, false, false, false, true, false, false, false, false, true, false, false, false, false] rfl rfl (take_ofW HT_.out HW_.out (by kernel_rfl)) (fun _ _ _ h => h) (Or.inl ⟨by rfl, ?_⟩) hHeld ?_ ?_
                      rotate_left
                      ·rintro w' ⟨s0, s1, s2, s3, s4, s5, s6, s7, s8, s9, s10⟩
                       go_simp
                       with_reducible rfl
                      rotate_left
                      ·simp only [Act.put, List.setIfInBounds_toArray, List.set_cons_zero, List.set_cons_succ, i64_w, i32_w]
                       rfl
                      refine take_ (i := 8) (N := some 35) (v := ?_) (a' := ?_) #[true, true, true, true, false, false, false, true, true, false, false, false, true, false, false, false, false, true, false, false, false, false, true, false, false, false, false, true, false, false, false, false] rfl rfl (take_ofW HT_.out HW_.out (by kernel_rfl)) (fun _ _ _ h => h) (Or.inl ⟨by rfl, ?_⟩) hHeld ?_ ?_
                      rotate_left
                      ·rintro w' ⟨s0, s1, s2, s3, s4, s5, s6, s7, s8, s9, s10⟩
                       go_simp
                       with_reducible rfl
                      rotate_left
                      ·simp only [Act.put, List.setIfInBounds_toArray, List.set_cons_zero, List.set_cons_succ, i64_w, i32_w]
                       rfl
                      refine take_ (i := 13) (N := some 40) (v := ?_) (a' := ?_) #[true, true, true, true, false, false, false, true, true, false, false, false, true, true, false, false, false, true, false, false, false, false, true, false, false, false, false, true, false, false, false, false] rfl rfl (take_ofW HT_.out HW_.out (by kernel_rfl)) (fun _ _ _ h => h) (Or.inl ⟨by rfl, ?_⟩) hHeld ?_ ?_
                      rotate_left
                      ·rintro w' ⟨s0, s1, s2, s3, s4, s5, s6, s7, s8, s9, s10⟩
                       go_simp
                       with_reducible rfl
                      rotate_left
                      ·simp only [Act.put, List.setIfInBounds_toArray, List.set_cons_zero, List.set_cons_succ, i64_w, i32_w]
                       rfl
                      refine take_ (i := 18) (N := some 45) (v := ?_) (a' := ?_) #[true, true, true, true, false, false, false, true, true, false, false, false, true, true, false, false, false, true, true, false, false, false, true, false, false, false, false, true, false, false, false, false] rfl rfl (take_ofW HT_.out HW_.out (by kernel_rfl)) (fun _ _ _ h => h) (Or.inl ⟨by rfl, ?_⟩) hHeld ?_ ?_
                      rotate_left
                      ·rintro w' ⟨s0, s1, s2, s3, s4, s5, s6, s7, s8, s9, s10⟩
                       go_simp
                       with_reducible rfl
                      rotate_left
                      ·simp only [Act.put, List.setIfInBounds_toArray, List.set_cons_zero, List.set_cons_succ, i64_w, i32_w]
                       rfl
                      refine take_ (i := 23) (N := some 50) (v := ?_) (a' := ?_) #[true, true, true, true, false, false, false, true, true, false, false, false, true, true, false, false, false, true, true, false, false, false, true, true, false, false, false, true, false, false, false, false] rfl rfl (take_ofW HT_.out HW_.out (by kernel_rfl)) (fun _ _ _ h => h) (Or.inl ⟨by rfl, ?_⟩) hHeld ?_ ?_
                      rotate_left
                      ·rintro w' ⟨s0, s1, s2, s3, s4, s5, s6, s7, s8, s9, s10⟩
                       go_simp
                       with_reducible rfl
                      rotate_left
                      ·simp only [Act.put, List.setIfInBounds_toArray, List.set_cons_zero, List.set_cons_succ, i64_w, i32_w]
                       rfl
                      refine take_ (i := 28) (N := some 55) (v := ?_) (a' := ?_) #[true, true, true, true, false, false, false, true, true, false, false, false, true, true, false, false, false, true, true, false, false, false, true, true, false, false, false, true, true, false, false, false] rfl rfl (take_ofW HT_.out HW_.out (by kernel_rfl)) (fun _ _ _ h => h) (Or.inl ⟨by rfl, ?_⟩) hHeld ?_ ?_
                      rotate_left
                      ·rintro w' ⟨s0, s1, s2, s3, s4, s5, s6, s7, s8, s9, s10⟩
                       go_simp
                       with_reducible rfl
                      rotate_left
                      ·simp only [Act.put, List.setIfInBounds_toArray, List.set_cons_zero, List.set_cons_succ, i64_w, i32_w]
                       rfl
                      refine one_ (i := 4) (N := some 31) #[true, true, true, true, true, false, false, true, true, false, false, false, true, true, false, false, false, true, true, false, false, false, true, true, false, false, false, true, true, false, false, false] rfl rfl (one_of HT_.out (by kernel_rfl)) (by decide) (fun K hK => ?_)
                      refine goes_ Tryd.func23 (by kernel_rfl) rfl #[.int .i64 a0_4] (by rfl) rfl rfl (by (try simp only [List.map_toArray, List.map_cons, List.map_nil]); first | done | rfl | (simp only [List.length_drop, List.length_take]; rfl)) ?_
                      with_reducible refine (pendulumref07_Number.calls k a0_4 t134 _ A16.out).mono ?_
                      rintro e w40 ⟨rfl, hb⟩
                      refine ⟨_, rfl, ?_⟩
                      have n0_ := Aside0.mk (blk_below (g := gb129) (o := .cells #[.string a0_0, .int .i64 a0_1, .int .i64 a0_2, .int .i64 a0_3, .int .i64 a0_4, .int .i64 a0_5, .int .i64 a0_6, .int .i64 a0_7, .int .i64 a0_8, .int .i64 a0_9, .int .i64 a0_10] 26 (0, 0)) (by (with_reducible repeat (first | refine blk_drewN ?_ _ | refine blk_drew ?_ | refine blk_alloc ?_ _)); exact BK129.out) hb)
                      have n1_ := Aside0.mk (below_step (by repeat (first | (with_reducible first | exact HB.out | apply below_alloc | apply pw_below_drewN | apply below_drew1 | refine below_set ?_ GE129.out) | exact HB.out)) hb)
                      clear BK129
                      clear HB
                      have BK129 := n0_
                      have HB := n1_
                      clear n0_ n1_
                      (try clear hb)
                      (try clear hb2)
                      (try clear hk)
                      (try clear hi)
                      refine hK.out _ _ ⟨(blk_cell BK129.out 0).trans rfl, (blk_cell BK129.out 1).trans rfl, (blk_cell BK129.out 2).trans rfl, (blk_cell BK129.out 3).trans rfl, (blk_cell BK129.out 4).trans rfl, (blk_cell BK129.out 5).trans rfl, (blk_cell BK129.out 6).trans rfl, (blk_cell BK129.out 7).trans rfl, (blk_cell BK129.out 8).trans rfl, (blk_cell BK129.out 9).trans rfl, (blk_cell BK129.out 10).trans rfl⟩ (fun hHeld => ?_)
                      clear hK K
                      refine norm_ (a' := ?_) ?_ ?_
                      rotate_left
                      ·show Act.put _ (some 31) _ = _
                       simp only [Act.put, List.setIfInBounds_toArray, List.set_cons_zero, List.set_cons_succ, i64_w, i32_w]
                       rfl
                      refine pure_ (i := 5) (N := some 32) (v := ?_) (a' := ?_) #[true, true, true, true, true, true, false, true, true, false, false, false, true, true, false, false, false, true, true, false, false, false, true, true, false, false, false, true, true, false, false, false] rfl rfl (any_of HT_.out (by kernel_rfl)) (fun _ _ _ h => h) (Or.inl ⟨by rfl, ?_⟩) ?_ ?_
                      rotate_left
                      ·intro w'
                       go_simp
                       with_reducible rfl
                      rotate_left
                      ·simp only [Act.put, List.setIfInBounds_toArray, List.set_cons_zero, List.set_cons_succ, i64_w, i32_w]
                       rfl
                      refine pure_ (i := 6) (N := some 33) (v := ?_) (a' := ?_) #[true, true, true, true, true, true, true, true, true, false, false, false, true, true, false, false, false, true, true, false, false, false, true, true, false, false, false, true, true, false, false, false] rfl rfl (any_of HT_.out (by kernel_rfl)) (fun _ _ _ h => h) (Or.inl ⟨by rfl, ?_⟩) ?_ ?_
                      rotate_left
                      ·intro w'
                       go_simp
                       with_reducible rfl
                      rotate_left
                      ·simp only [Act.put, List.setIfInBounds_toArray, List.set_cons_zero, List.set_cons_succ, i64_w, i32_w]
                       rfl
                      refine one_ (i := 9) (N := some 36) #[true, true, true, true, true, true, true, true, true, true, false, false, true, true, false, false, false, true, true, false, false, false, true, true, false, false, false, true, true, false, false, false] rfl rfl (one_of HT_.out (by kernel_rfl)) (by decide) (fun K hK => ?_)
                      refine goes_ Tryd.func23 (by kernel_rfl) rfl #[.int .i64 a0_5] (by rfl) rfl rfl (by (try simp only [List.map_toArray, List.map_cons, List.map_nil]); first | done | rfl | (simp only [List.length_drop, List.length_take]; rfl)) ?_
                      with_reducible refine (pendulumref07_Number.calls k a0_5 t135 _ A19.out).mono ?_
                      rintro e w41 ⟨rfl, hb⟩
                      refine ⟨_, rfl, ?_⟩
                      have n0_ := Aside0.mk (blk_below (g := gb129) (o := .cells #[.string a0_0, .int .i64 a0_1, .int .i64 a0_2, .int .i64 a0_3, .int .i64 a0_4, .int .i64 a0_5, .int .i64 a0_6, .int .i64 a0_7, .int .i64 a0_8, .int .i64 a0_9, .int .i64 a0_10] 26 (0, 0)) (by (with_reducible repeat (first | refine blk_drewN ?_ _ | refine blk_drew ?_ | refine blk_alloc ?_ _)); exact BK129.out) hb)
                      have n1_ := Aside0.mk (below_step (by repeat (first | (with_reducible first | exact HB.out | apply below_alloc | apply pw_below_drewN | apply below_drew1 | refine below_set ?_ GE129.out) | exact HB.out)) hb)
                      clear BK129
                      clear HB
                      have BK129 := n0_
                      have HB := n1_
                      clear n0_ n1_
                      (try clear hb)
                      (try clear hb2)
                      (try clear hk)
                      (try clear hi)
                      refine hK.out _ _ ⟨(blk_cell BK129.out 0).trans rfl, (blk_cell BK129.out 1).trans rfl, (blk_cell BK129.out 2).trans rfl, (blk_cell BK129.out 3).trans rfl, (blk_cell BK129.out 4).trans rfl, (blk_cell BK129.out 5).trans rfl, (blk_cell BK129.out 6).trans rfl, (blk_cell BK129.out 7).trans rfl, (blk_cell BK129.out 8).trans rfl, (blk_cell BK129.out 9).trans rfl, (blk_cell BK129.out 10).trans rfl⟩ (fun hHeld => ?_)
                      clear hK K
                      refine norm_ (a' := ?_) ?_ ?_
                      rotate_left
                      ·show Act.put _ (some 36) _ = _
                       simp only [Act.put, List.setIfInBounds_toArray, List.set_cons_zero, List.set_cons_succ, i64_w, i32_w]
                       rfl
                      refine pure_ (i := 10) (N := some 37) (v := ?_) (a' := ?_) #[true, true, true, true, true, true, true, true, true, true, true, false, true, true, false, false, false, true, true, false, false, false, true, true, false, false, false, true, true, false, false, false] rfl rfl (any_of HT_.out (by kernel_rfl)) (fun _ _ _ h => h) (Or.inl ⟨by rfl, ?_⟩) ?_ ?_
                      rotate_left
                      ·intro w'
                       go_simp
                       with_reducible rfl
                      rotate_left
                      ·simp only [Act.put, List.setIfInBounds_toArray, List.set_cons_zero, List.set_cons_succ, i64_w, i32_w]
                       rfl
                      refine pure_ (i := 11) (N := some 38) (v := ?_) (a' := ?_) #[true, true, true, true, true, true, true, true, true, true, true, true, true, true, false, false, false, true, true, false, false, false, true, true, false, false, false, true, true, false, false, false] rfl rfl (any_of HT_.out (by kernel_rfl)) (fun _ _ _ h => h) (Or.inl ⟨by rfl, ?_⟩) ?_ ?_
                      rotate_left
                      ·intro w'
                       go_simp
                       with_reducible rfl
                      rotate_left
                      ·simp only [Act.put, List.setIfInBounds_toArray, List.set_cons_zero, List.set_cons_succ, i64_w, i32_w]
                       rfl
                      refine one_ (i := 14) (N := some 41) #[true, true, true, true, true, true, true, true, true, true, true, true, true, true, true, false, false, true, true, false, false, false, true, true, false, false, false, true, true, false, false, false] rfl rfl (one_of HT_.out (by kernel_rfl)) (by decide) (fun K hK => ?_)
                      refine goes_ Tryd.func23 (by kernel_rfl) rfl #[.int .i64 a0_6] (by rfl) rfl rfl (by (try simp only [List.map_toArray, List.map_cons, List.map_nil]); first | done | rfl | (simp only [List.length_drop, List.length_take]; rfl)) ?_
                      with_reducible refine (pendulumref07_Number.calls k a0_6 t136 _ A22.out).mono ?_
                      rintro e w42 ⟨rfl, hb⟩
                      refine ⟨_, rfl, ?_⟩
                      have n0_ := Aside0.mk (blk_below (g := gb129) (o := .cells #[.string a0_0, .int .i64 a0_1, .int .i64 a0_2, .int .i64 a0_3, .int .i64 a0_4, .int .i64 a0_5, .int .i64 a0_6, .int .i64 a0_7, .int .i64 a0_8, .int .i64 a0_9, .int .i64 a0_10] 26 (0, 0)) (by (with_reducible repeat (first | refine blk_drewN ?_ _ | refine blk_drew ?_ | refine blk_alloc ?_ _)); exact BK129.out) hb)
                      have n1_ := Aside0.mk (below_step (by repeat (first | (with_reducible first | exact HB.out | apply below_alloc | apply pw_below_drewN | apply below_drew1 | refine below_set ?_ GE129.out) | exact HB.out)) hb)
                      clear BK129
                      clear HB
                      have BK129 := n0_
                      have HB := n1_
                      clear n0_ n1_
                      (try clear hb)
                      (try clear hb2)
                      (try clear hk)
                      (try clear hi)
                      refine hK.out _ _ ⟨(blk_cell BK129.out 0).trans rfl, (blk_cell BK129.out 1).trans rfl, (blk_cell BK129.out 2).trans rfl, (blk_cell BK129.out 3).trans rfl, (blk_cell BK129.out 4).trans rfl, (blk_cell BK129.out 5).trans rfl, (blk_cell BK129.out 6).trans rfl, (blk_cell BK129.out 7).trans rfl, (blk_cell BK129.out 8).trans rfl, (blk_cell BK129.out 9).trans rfl, (blk_cell BK129.out 10).trans rfl⟩ (fun hHeld => ?_)
                      clear hK K
                      refine norm_ (a' := ?_) ?_ ?_
                      rotate_left
                      ·show Act.put _ (some 41) _ = _
                       simp only [Act.put, List.setIfInBounds_toArray, List.set_cons_zero, List.set_cons_succ, i64_w, i32_w]
                       rfl
                      refine pure_ (i := 15) (N := some 42) (v := ?_) (a' := ?_) #[true, true, true, true, true, true, true, true, true, true, true, true, true, true, true, true, false, true, true, false, false, false, true, true, false, false, false, true, true, false, false, false] rfl rfl (any_of HT_.out (by kernel_rfl)) (fun _ _ _ h => h) (Or.inl ⟨by rfl, ?_⟩) ?_ ?_
                      rotate_left
                      ·intro w'
                       go_simp
                       with_reducible rfl
                      rotate_left
                      ·simp only [Act.put, List.setIfInBounds_toArray, List.set_cons_zero, List.set_cons_succ, i64_w, i32_w]
                       rfl
                      refine pure_ (i := 16) (N := some 43) (v := ?_) (a' := ?_) #[true, true, true, true, true, true, true, true, true, true, true, true, true, true, true, true, true, true, true, false, false, false, true, true, false, false, false, true, true, false, false, false] rfl rfl (any_of HT_.out (by kernel_rfl)) (fun _ _ _ h => h) (Or.inl ⟨by rfl, ?_⟩) ?_ ?_
                      rotate_left
                      ·intro w'
                       go_simp
                       with_reducible rfl
                      rotate_left
                      ·simp only [Act.put, List.setIfInBounds_toArray, List.set_cons_zero, List.set_cons_succ, i64_w, i32_w]
                       rfl
                      refine one_ (i := 19) (N := some 46) #[true, true, true, true, true, true, true, true, true, true, true, true, true, true, true, true, true, true, true, true, false, false, true, true, false, false, false, true, true, false, false, false] rfl rfl (one_of HT_.out (by kernel_rfl)) (by decide) (fun K hK => ?_)
                      refine goes_ Tryd.func23 (by kernel_rfl) rfl #[.int .i64 a0_7] (by rfl) rfl rfl (by (try simp only [List.map_toArray, List.map_cons, List.map_nil]); first | done | rfl | (simp only [List.length_drop, List.length_take]; rfl)) ?_
                      with_reducible refine (pendulumref07_Number.calls k a0_7 t137 _ A25.out).mono ?_
                      rintro e w43 ⟨rfl, hb⟩
                      refine ⟨_, rfl, ?_⟩
                      have n0_ := Aside0.mk (blk_below (g := gb129) (o := .cells #[.string a0_0, .int .i64 a0_1, .int .i64 a0_2, .int .i64 a0_3, .int .i64 a0_4, .int .i64 a0_5, .int .i64 a0_6, .int .i64 a0_7, .int .i64 a0_8, .int .i64 a0_9, .int .i64 a0_10] 26 (0, 0)) (by (with_reducible repeat (first | refine blk_drewN ?_ _ | refine blk_drew ?_ | refine blk_alloc ?_ _)); exact BK129.out) hb)
                      have n1_ := Aside0.mk (below_step (by repeat (first | (with_reducible first | exact HB.out | apply below_alloc | apply pw_below_drewN | apply below_drew1 | refine below_set ?_ GE129.out) | exact HB.out)) hb)
                      clear BK129
                      clear HB
                      have BK129 := n0_
                      have HB := n1_
                      clear n0_ n1_
                      (try clear hb)
                      (try clear hb2)
                      (try clear hk)
                      (try clear hi)
                      refine hK.out _ _ ⟨(blk_cell BK129.out 0).trans rfl, (blk_cell BK129.out 1).trans rfl, (blk_cell BK129.out 2).trans rfl, (blk_cell BK129.out 3).trans rfl, (blk_cell BK129.out 4).trans rfl, (blk_cell BK129.out 5).trans rfl, (blk_cell BK129.out 6).trans rfl, (blk_cell BK129.out 7).trans rfl, (blk_cell BK129.out 8).trans rfl, (blk_cell BK129.out 9).trans rfl, (blk_cell BK129.out 10).trans rfl⟩ (fun hHeld => ?_)
                      clear hK K
                      refine norm_ (a' := ?_) ?_ ?_
                      rotate_left
                      ·show Act.put _ (some 46) _ = _
                       simp only [Act.put, List.setIfInBounds_toArray, List.set_cons_zero, List.set_cons_succ, i64_w, i32_w]
                       rfl
                      refine pure_ (i := 20) (N := some 47) (v := ?_) (a' := ?_) #[true, true, true, true, true, true, true, true, true, true, true, true, true, true, true, true, true, true, true, true, true, false, true, true, false, false, false, true, true, false, false, false] rfl rfl (any_of HT_.out (by kernel_rfl)) (fun _ _ _ h => h) (Or.inl ⟨by rfl, ?_⟩) ?_ ?_
                      rotate_left
                      ·intro w'
                       go_simp
                       with_reducible rfl
                      rotate_left
                      ·simp only [Act.put, List.setIfInBounds_toArray, List.set_cons_zero, List.set_cons_succ, i64_w, i32_w]
                       rfl
                      refine pure_ (i := 21) (N := some 48) (v := ?_) (a' := ?_) #[true, true, true, true, true, true, true, true, true, true, true, true, true, true, true, true, true, true, true, true, true, true, true, true, false, false, false, true, true, false, false, false] rfl rfl (any_of HT_.out (by kernel_rfl)) (fun _ _ _ h => h) (Or.inl ⟨by rfl, ?_⟩) ?_ ?_
                      rotate_left
                      ·intro w'
                       go_simp
                       with_reducible rfl
                      rotate_left
                      ·simp only [Act.put, List.setIfInBounds_toArray, List.set_cons_zero, List.set_cons_succ, i64_w, i32_w]
                       rfl
                      refine one_ (i := 24) (N := some 51) #[true, true, true, true, true, true, true, true, true, true, true, true, true, true, true, true, true, true, true, true, true, true, true, true, true, false, false, true, true, false, false, false] rfl rfl (one_of HT_.out (by kernel_rfl)) (by decide) (fun K hK => ?_)
                      refine goes_ Tryd.func23 (by kernel_rfl) rfl #[.int .i64 a0_8] (by rfl) rfl rfl (by (try simp only [List.map_toArray, List.map_cons, List.map_nil]); first | done | rfl | (simp only [List.length_drop, List.length_take]; rfl)) ?_
                      with_reducible refine (pendulumref07_Number.calls k a0_8 t138 _ A28.out).mono ?_
                      rintro e w44 ⟨rfl, hb⟩
                      refine ⟨_, rfl, ?_⟩
                      have n0_ := Aside0.mk (blk_below (g := gb129) (o := .cells #[.string a0_0, .int .i64 a0_1, .int .i64 a0_2, .int .i64 a0_3, .int .i64 a0_4, .int .i64 a0_5, .int .i64 a0_6, .int .i64 a0_7, .int .i64 a0_8, .int .i64 a0_9, .int .i64 a0_10] 26 (0, 0)) (by (with_reducible repeat (first | refine blk_drewN ?_ _ | refine blk_drew ?_ | refine blk_alloc ?_ _)); exact BK129.out) hb)
                      have n1_ := Aside0.mk (below_step (by repeat (first | (with_reducible first | exact HB.out | apply below_alloc | apply pw_below_drewN | apply below_drew1 | refine below_set ?_ GE129.out) | exact HB.out)) hb)
                      clear BK129
                      clear HB
                      have BK129 := n0_
                      have HB := n1_
                      clear n0_ n1_
                      (try clear hb)
                      (try clear hb2)
                      (try clear hk)
                      (try clear hi)
                      refine hK.out _ _ ⟨(blk_cell BK129.out 0).trans rfl, (blk_cell BK129.out 1).trans rfl, (blk_cell BK129.out 2).trans rfl, (blk_cell BK129.out 3).trans rfl, (blk_cell BK129.out 4).trans rfl, (blk_cell BK129.out 5).trans rfl, (blk_cell BK129.out 6).trans rfl, (blk_cell BK129.out 7).trans rfl, (blk_cell BK129.out 8).trans rfl, (blk_cell BK129.out 9).trans rfl, (blk_cell BK129.out 10).trans rfl⟩ (fun hHeld => ?_)
                      clear hK K
                      refine norm_ (a' := ?_) ?_ ?_
                      rotate_left
                      ·show Act.put _ (some 51) _ = _
                       simp only [Act.put, List.setIfInBounds_toArray, List.set_cons_zero, List.set_cons_succ, i64_w, i32_w]
                       rfl
                      refine pure_ (i := 25) (N := some 52) (v := ?_) (a' := ?_) #[true, true, true, true, true, true, true, true, true, true, true, true, true, true, true, true, true, true, true, true, true, true, true, true, true, true, false, true, true, false, false, false] rfl rfl (any_of HT_.out (by kernel_rfl)) (fun _ _ _ h => h) (Or.inl ⟨by rfl, ?_⟩) ?_ ?_
                      rotate_left
                      ·intro w'
                       go_simp
                       with_reducible rfl
                      rotate_left
                      ·simp only [Act.put, List.setIfInBounds_toArray, List.set_cons_zero, List.set_cons_succ, i64_w, i32_w]
                       rfl
                      refine pure_ (i := 26) (N := some 53) (v := ?_) (a' := ?_) #[true, true, true, true, true, true, true, true, true, true, true, true, true, true, true, true, true, true, true, true, true, true, true, true, true, true, true, true, true, false, false, false] rfl rfl (any_of HT_.out (by kernel_rfl)) (fun _ _ _ h => h) (Or.inl ⟨by rfl, ?_⟩) ?_ ?_
                      rotate_left
                      ·intro w'
                       go_simp
                       with_reducible rfl
                      rotate_left
                      ·simp only [Act.put, List.setIfInBounds_toArray, List.set_cons_zero, List.set_cons_succ, i64_w, i32_w]
                       rfl
                      refine one_ (i := 29) (N := some 56) #[true, true, true, true, true, true, true, true, true, true, true, true, true, true, true, true, true, true, true, true, true, true, true, true, true, true, true, true, true, true, false, false] rfl rfl (one_of HT_.out (by kernel_rfl)) (by decide) (fun K hK => ?_)
                      refine goes_ Tryd.func23 (by kernel_rfl) rfl #[.int .i64 a0_10] (by rfl) rfl rfl (by (try simp only [List.map_toArray, List.map_cons, List.map_nil]); first | done | rfl | (simp only [List.length_drop, List.length_take]; rfl)) ?_
                      with_reducible refine (pendulumref07_Number.calls k a0_10 t139 _ A31.out).mono ?_
                      rintro e w45 ⟨rfl, hb⟩
                      refine ⟨_, rfl, ?_⟩
                      have n0_ := Aside0.mk (blk_below (g := gb129) (o := .cells #[.string a0_0, .int .i64 a0_1, .int .i64 a0_2, .int .i64 a0_3, .int .i64 a0_4, .int .i64 a0_5, .int .i64 a0_6, .int .i64 a0_7, .int .i64 a0_8, .int .i64 a0_9, .int .i64 a0_10] 26 (0, 0)) (by (with_reducible repeat (first | refine blk_drewN ?_ _ | refine blk_drew ?_ | refine blk_alloc ?_ _)); exact BK129.out) hb)
                      have n1_ := Aside0.mk (below_step (by repeat (first | (with_reducible first | exact HB.out | apply below_alloc | apply pw_below_drewN | apply below_drew1 | refine below_set ?_ GE129.out) | exact HB.out)) hb)
                      clear BK129
                      clear HB
                      have BK129 := n0_
                      have HB := n1_
                      clear n0_ n1_
                      (try clear hb)
                      (try clear hb2)
                      (try clear hk)
                      (try clear hi)
                      refine hK.out _ _ ⟨(blk_cell BK129.out 0).trans rfl, (blk_cell BK129.out 1).trans rfl, (blk_cell BK129.out 2).trans rfl, (blk_cell BK129.out 3).trans rfl, (blk_cell BK129.out 4).trans rfl, (blk_cell BK129.out 5).trans rfl, (blk_cell BK129.out 6).trans rfl, (blk_cell BK129.out 7).trans rfl, (blk_cell BK129.out 8).trans rfl, (blk_cell BK129.out 9).trans rfl, (blk_cell BK129.out 10).trans rfl⟩ (fun hHeld => ?_)
                      clear hK K
                      refine norm_ (a' := ?_) ?_ ?_
                      rotate_left
                      ·show Act.put _ (some 56) _ = _
                       simp only [Act.put, List.setIfInBounds_toArray, List.set_cons_zero, List.set_cons_succ, i64_w, i32_w]
                       rfl
                      refine pure_ (i := 30) (N := some 57) (v := ?_) (a' := ?_) #[true, true, true, true, true, true, true, true, true, true, true, true, true, true, true, true, true, true, true, true, true, true, true, true, true, true, true, true, true, true, true, false] rfl rfl (any_of HT_.out (by kernel_rfl)) (fun _ _ _ h => h) (Or.inl ⟨by rfl, ?_⟩) ?_ ?_
                      rotate_left
                      ·intro w'
                       go_simp
                       with_reducible rfl
                      rotate_left
                      ·simp only [Act.put, List.setIfInBounds_toArray, List.set_cons_zero, List.set_cons_succ, i64_w, i32_w]
                       rfl
                      refine pure_ (i := 31) (N := some 2) (v := ?_) (a' := ?_) #[true, true, true, true, true, true, true, true, true, true, true, true, true, true, true, true, true, true, true, true, true, true, true, true, true, true, true, true, true, true, true, true] rfl rfl (any_of HT_.out (by kernel_rfl)) (fun _ _ _ h => h) (Or.inl ⟨by rfl, ?_⟩) ?_ ?_
                      rotate_left
                      ·intro w'
                       go_simp
                       with_reducible rfl
                      rotate_left
                      ·simp only [Act.put, List.setIfInBounds_toArray, List.set_cons_zero, List.set_cons_succ, i64_w, i32_w]
                       rfl
                      refine done_ (done_of HT_.out (by kernel_rfl)) ?_
                      try go_wp2
                      go_ret
                      exact ⟨by first | rfl | (simp [errW_none, errW_some] <;> rfl) | (simp [*, errW_none, errW_some] <;> rfl), by repeat (first | (with_reducible first | exact HB.out | apply below_alloc | apply pw_below_drewN | apply below_drew1 | refine below_set ?_ GE129.out) | exact HB.out)⟩
                     ·rw [if_neg c32] at H
                      exact absurd H (by simp)
                    ·rw [if_neg c30] at H
                     exact absurd H (by simp)
                   ·rw [if_neg c29] at H
                    exact absurd H (by simp)
                  ·rw [if_neg c27] at H
                   exact absurd H (by simp)
                 ·rw [if_neg c26] at H
                  exact absurd H (by simp)
                ·rw [if_neg c24] at H
                 exact absurd H (by simp)
               ·rw [if_neg c23] at H
                exact absurd H (by simp)
              ·rw [if_neg c21] at H
               exact absurd H (by simp)
             ·rw [if_neg c20] at H
              exact absurd H (by simp)
            ·rw [if_neg c18] at H
             exact absurd H (by simp)
           ·rw [if_neg c17] at H
            exact absurd H (by simp)
          ·rw [if_neg c15] at H
           exact absurd H (by simp)
         ·rw [if_neg c14] at H
          exact absurd H (by simp)
        ·rw [if_neg c12] at H
         exact absurd H (by simp)
       ·rw [if_neg c11] at H
        exact absurd H (by simp)
      ·rw [if_neg c9] at H
       exact absurd H (by simp)
     ·rw [if_neg c8] at H
      exact absurd H (by simp)
    ·rw [if_neg c6] at H
     exact absurd H (by simp)
   ·rw [if_neg c5] at H
    exact absurd H (by simp)
  ·rw [if_neg c3] at H
   exact absurd H (by simp)
 ·rw [if_neg c2] at H
  exact absurd H (by simp)

end Go.Proofs.YtadfcdpalcgghaaDoor.Q
