/- Of whatever word parse.Mode and the reference tell the same mode (ParseModes). No condition beyond the statement's own. -/
import Derived.Test.YtddbkcfdfgehkaaDoorHparsH
import Derived.Test.YtddbkcfdfgehkaaDoorQ0
import Derived.Test.YtddbkcfdfgehkaaDoorQ9
import Derived.Test.YtddbkcfdfgehkaaDoorQ16
import Derived.Test.YtddbkcfdfgehkaaDoorHparsG
import Derived.Test.YtddbkcfdfgehkaaDoorHparsH
import Derived.Test.YtddbkcfdfgehkaaDoorLpars
namespace Go.Proofs.YtddbkcfdfgehkaaDoor.Pure
open Go.RowKit Go.Proofs.YtddbkcfdfgehkaaDoor.Q Go.Proofs.YtddbkcfdfgehkaaDoorW.PrintWords Go.Proofs.YtddbkcfdfgehkaaDoorW.PrintLast
theorem toList_lit (s : ByteArray) (l : List UInt8) : (s.toList = l) ↔ s = ⟨l.toArray⟩ := by
  rw [Lib.toList_data]
  constructor
  · intro h
    cases s with
    | mk d => rw [← h]
  · intro h; rw [h]
theorem ref_mode (s : ByteArray) : pendulumref06_Mode.f s = some (modeOf s) := by
  unfold pendulumref06_Mode.f modeOf wRetry wBlock wBackup
  simp only [toList_lit]
  repeat' split
  all_goals rfl
theorem ParseModes : pendulumlaw06_ParseModes.Pure := by
  intro a hl
  refine ⟨1, ?_⟩
  unfold pendulumlaw06_ParseModes.f pendulumlaw06_awake.f
  simp only [Option.bind_some, if_true]
  cases hz : decide ((a.size : Int) > 1000) with
  | true => rw [pendulumlaw06_ParseModes.j0, if_pos rfl]; rfl
  | false =>
    rw [pendulumlaw06_ParseModes.j0, if_neg Bool.false_ne_true]
    unfold parse_Mode.f
    rw [ref_mode]
    simp only [Option.bind_some, if_true]
    rfl
end Go.Proofs.YtddbkcfdfgehkaaDoor.Pure
