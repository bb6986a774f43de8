-- What parse reads, token by token, as plain functions (no program in sight).
-- PLAIN
import Derived.Test.YtddbkcfdfgehkaaDoorQ0
import Derived.Test.YtddbkcfdfgehkaaDoorLtask
import Derived.Test.YtddbkcfdfgehkaaDoorLtask
namespace Go.Proofs.YtddbkcfdfgehkaaDoor.Q
open Go.RowKit Go.Proofs.YtddbkcfdfgehkaaDoorW.PrintWords Go.Proofs.YtddbkcfdfgehkaaDoorW.PrintLast Go.Proofs.YtddbkcfdfgehkaaDoorW.PrintMore
attribute [local go_sem] max2_int min2_int max_two min_two max_three min_three max_four min_four   -- for this text's walks alone
set_option linter.unusedVariables false
set_option linter.unusedSimpArgs false

abbrev TOK := S46
structure PS where
  l : List TOK
  e : Int
  ln : Int
  cl : Int
  b : Int
  ts : List TK
  bt : TOK
  hs : List TOK
def PS.now (p : PS) : TOK := p.l.headD z46
def PS.fail (p : PS) : PS := if p.e = 0 then { p with e := 5, ln := p.now.f3, cl := p.now.f4 } else p
/-- Whether the next token is taken. -/
def PS.fits (p : PS) (kind : Int) (texts : List ByteArray) : Bool := (p.e == 0) && (p.now.f0 == kind) && (texts.isEmpty || texts.any (fun x => x.toList == p.now.f1.toList))
def PS.take (p : PS) (kind : Int) (texts : List ByteArray) : PS × TOK := if p.fits kind texts = true then ({ p with l := p.l.tail }, p.now) else (p.fail, z46)
def PS.num (p : PS) : PS × Int := ((p.take 2 []).1, (p.take 2 []).2.f2)
def PS.nums : Nat → PS → PS × List Int
  | 0, p => (p, [])
  | n + 1, p => ((PS.nums n p).1.num.1, (PS.nums n p).2 ++ [(PS.nums n p).1.num.2])
def PS.fin (p : PS) : PS := if p.e = 0 ∧ p.now.f0 = 4 then p else (p.take 3 []).1
def PS.blank (p : PS) : PS := { p with l := p.l.dropWhile (fun t => t.f0 == 3) }
def wTask : ByteArray := ⟨#[116, 97, 115, 107]⟩
def wBurst : ByteArray := ⟨#[98, 117, 114, 115, 116]⟩
def wRetry : ByteArray := ⟨#[114, 101, 116, 114, 121]⟩
def wBlock : ByteArray := ⟨#[98, 108, 111, 99, 107]⟩
def wBackup : ByteArray := ⟨#[98, 97, 99, 107, 117, 112]⟩
def modeOf (s : ByteArray) : Int := if s = wRetry then 1 else if s = wBlock then 2 else if s = wBackup then 3 else 0
def PS.first (p : PS) : PS :=
  let p1 := (p.take 1 [wBurst]).1
  let p2 := { p1 with bt := p1.now }
  { p2.num.1 with b := p2.num.2 }.fin
def PS.one (p : PS) : PS :=
  let p1 := { p with hs := p.hs ++ [p.now] }
  let p2 := (p1.take 1 [wTask]).1
  let p3 := p2.take 1 []
  let p4 := PS.nums 3 p3.1
  let p5 := p4.1.take 1 [wRetry, wBlock, wBackup]
  let p6 := PS.nums 6 p5.1
  let n := fun i => p4.2.getD i 0
  let m := fun i => p6.2.getD i 0
  let p7 := p6.1.fin
  { p7 with ts := p7.ts ++ [⟨p3.2.f1, n 0, n 1, n 2, m 0, m 1, m 2, m 3, m 4, modeOf p5.2.f1, m 5⟩] }
/-- Where a set isn't right: an error, a line, a column. -/
def PS.wrong (p : PS) : Int × Int × Int :=
  let w := whyS p.b p.ts
  let t := if w.1 = 1 then p.bt else if w.1 = 2 then (if 0 < p.hs.length then p.hs.getD 16 z46 else p.now) else p.hs.getD w.2.toNat z46
  if w.1 = 0 then (0, 0, 0) else (1, t.f3, t.f4)
def PS.go : Nat → PS → PS
  | 0, q => q
  | n + 1, q => if q.e = 0 ∧ q.now.f0 ≠ 4 then PS.go n q.one.blank else q
def PS.init (l : List TOK) : PS := ⟨l, 0, 0, 0, 0, [], z46, []⟩
/-- What parse.Set tells of tokens. -/
def parseToks (l : List TOK) : Int × List TK × Int × Int × Int :=
  let p := PS.go l.length (PS.init l).blank.first.blank
  let r := if p.e = 0 then p.wrong else (p.e, p.ln, p.cl)
  if r.1 = 0 then (p.b, p.ts, 0, 0, 0) else (0, [], r)
end Go.Proofs.YtddbkcfdfgehkaaDoor.Q
