-- Why a set of tasks isn't right, as plain functions (no program in sight).
-- PLAIN
import Derived.Test.YtphppahjkcnjlaaDoorQ0
import Derived.Test.YtphppahjkcnjlaaDoorHnamed
import Derived.Test.YtphppahjkcnjlaaDoorHnamed
namespace Go.Proofs.YtphppahjkcnjlaaDoor.Q
open Go.RowKit Go.Proofs.YtphppahjkcnjlaaDoorW.PrintWords Go.Proofs.YtphppahjkcnjlaaDoorW.PrintLast Go.Proofs.YtphppahjkcnjlaaDoorW.PrintMore
attribute [local go_sem] max2_int min2_int max_two min_two max_three min_three max_four min_four   -- for this text's walks alone
set_option linter.unusedVariables false
set_option linter.unusedSimpArgs false

abbrev TK := S32
def inB (n a b : Int) : Bool := decide (n ≥ a) && decide (n ≤ b)
def tNamed (t : TK) (ahead : List TK) : Bool := named t.f0 && !(ahead.any (fun x => x.f0.toList == t.f0.toList))
def tTimed (t : TK) : Bool := inB t.f1 1 1048576 && inB t.f2 1 t.f1 && inB t.f3 1 t.f2 && inB t.f6 0 1000
def tModed (t : TK) : Bool := if t.f9 = 1 then inB t.f5 1 t.f3 && (t.f4 == 0) else inB t.f9 2 3 && inB t.f4 1 t.f2 && (t.f5 == 0)
def tFirm (t : TK) : Bool := inB t.f8 1 64 && inB t.f7 1 t.f8
def tRanked (t : TK) (ahead : List TK) : Bool := inB t.f10 0 255 && !(ahead.any (fun x => x.f10 == t.f10))
/-- What is wrong with a task behind others; 0: nothing. -/
def whyT (t : TK) (ahead : List TK) : Int := if tNamed t ahead = false then 3 else if tTimed t = false then 4 else if tModed t = false then 5 else if tFirm t = false then 6 else if tRanked t ahead = false then 7 else 0
def whyFrom : List TK → List TK → Int → Int × Int
  | [], _, _ => (0, -1)
  | t :: r, ahead, i => if whyT t ahead = 0 then whyFrom r (ahead ++ [t]) (i + 1) else (whyT t ahead, i)
def whyS (b : Int) (ts : List TK) : Int × Int := if inB b 1 1000 = false then (1, -1) else if inB (ts.length : Int) 1 16 = false then (2, -1) else whyFrom ts [] 0
end Go.Proofs.YtphppahjkcnjlaaDoor.Q
