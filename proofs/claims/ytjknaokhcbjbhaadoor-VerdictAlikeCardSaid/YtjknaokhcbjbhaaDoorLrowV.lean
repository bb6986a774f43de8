-- A verdict by value, as a law's row reads it (no program in sight but its types).
-- NEEDS pendulum/verdict.Same
-- PLAIN
import Derived.Test.YtjknaokhcbjbhaaDoorM0
namespace Go.Proofs.YtjknaokhcbjbhaaDoor.Q
open Go.RowKit Go.Proofs.YtjknaokhcbjbhaaDoorW.PrintWords Go.Proofs.YtjknaokhcbjbhaaDoorW.PrintLast Go.Proofs.YtjknaokhcbjbhaaDoorW.PrintMore
attribute [local go_sem] max2_int min2_int max_two min_two max_three min_three max_four min_four   -- for this text's walks alone
set_option linter.unusedVariables false
set_option linter.unusedSimpArgs false

set_option maxRecDepth 100000
open Go.ChangeShapes Go.WideShapes Go.Deep
section
variable {H : Type} {enc : TypeId × Value → H} {base : Nat} {spare : Nat → Bool} {held : Bool}
theorem op_intE {w : World} {fuel : Nat} {cs : List Value} {x : DataW H × List MemPlace} (h : DataW.trod enc Tryd.prog w base spare held fuel 3 cs = some x) : ∃ a : Int, (Kd.int .i64).K w a cs ∧ (Lit.int .i64 a).wf = true := by
 obtain ⟨v, e, -, hw⟩ := DataW.trod_int Tryd.underlying3 h
 exact ⟨v, e, hw⟩
/-- A verdict by value. -/
theorem op_verdict {w : World} {r : Reach} {b0 : Nat} {v : Value} {d : DataW H} {ps : List MemPlace} (hv : Value.okWide Tryd.prog w r b0 29 v) (h : DataW.Trod enc Tryd.prog w base spare held 29 v d ps) :
  ∃ (q : Bool) (b : Int) (A : Option Addr) (c : Nat) (l : List Int), v = .agg #[.bool q, .int .i64 b, .slice A l.length c] ∧ Kd.C (Kd.int .i64) w A l.length l ∧ l.length ≤ c ∧ (∀ x ∈ l, (Lit.int .i64 x).wf = true) ∧ (Lit.int .i64 b).wf = true := by
 obtain ⟨cs, rfl, hsz⟩ := okWide_struct Tryd.underlying29 hv
 obtain ⟨fuel, h⟩ := h
 obtain ⟨xs, n, -, -, hlen, hxl, hf⟩ := DataW.trod_struct Tryd.underlying29 h
 have hx : xs.length = 3 := hxl
 have hc2 : cs.size = 3 := hsz.trans (by kernel_rfl)
 obtain ⟨c0, c1, c2, rfl⟩ : ∃ c0 c1 c2, cs = #[c0, c1, c2] := by
  obtain ⟨l⟩ := cs
  match l, hc2 with
  | [c0, c1, c2], _ => exact ⟨_, _, _, rfl⟩
 have g0 := hf 0 _ rfl
 rw [List.getElem?_eq_getElem (by omega)] at g0
 obtain ⟨q, e0, -⟩ := DataW.trod_bool Tryd.underlying4 g0
 have e0 : [c0] = [.bool q] := e0
 cases e0
 have g1 := hf 1 _ rfl
 rw [List.getElem?_eq_getElem (by omega)] at g1
 obtain ⟨b, e1, -, w1⟩ := DataW.trod_int Tryd.underlying3 g1
 have e1 : [c1] = [.int .i64 b] := e1
 cases e1
 have g2 := hf 2 _ rfl
 rw [List.getElem?_eq_getElem (by omega)] at g2
 obtain ⟨A, c, ts, e2, hC, hc, hok, -⟩ := op_slice (Kd.int .i64) (fun x => (Lit.int .i64 x).wf = true) Tryd.underlying27 (by kernel_rfl) op_intE g2
 have e2 : [c2] = [.slice A ts.length c] := e2
 cases e2
 exact ⟨q, b, A, c, ts, rfl, hC, hc, hok, w1⟩
end
end Go.Proofs.YtjknaokhcbjbhaaDoor.Q
