-- What an argument of a law is, as its row reads it: a set, a slice of numbers, of structs (no program in sight but its types).
-- PLAIN
import Derived.Test.YtphppahjkcnjlaaDoorQ0
import Derived.Test.YtphppahjkcnjlaaDoorLtask
import Derived.Test.YtphppahjkcnjlaaDoorHtaskA
import Derived.Deep.Slices
import Derived.ChangeArms
import Derived.WideShapes
namespace Go.Proofs.YtphppahjkcnjlaaDoor.Q
open Go.RowKit Go.Proofs.YtphppahjkcnjlaaDoorW.PrintWords Go.Proofs.YtphppahjkcnjlaaDoorW.PrintLast Go.Proofs.YtphppahjkcnjlaaDoorW.PrintMore
attribute [local go_sem] max2_int min2_int max_two min_two max_three min_three max_four min_four   -- for this text's walks alone
set_option linter.unusedVariables false
set_option linter.unusedSimpArgs false

section
open Go.ChangeShapes Go.WideShapes Go.Deep
variable {H : Type} {enc : TypeId × Value → H} {base : Nat} {spare : Nat → Bool} {held : Bool}
theorem pick_list {α : Type} (Q : Nat → α → Prop) : ∀ n : Nat, (∀ i, i < n → ∃ a, Q i a) → ∃ l : List α, l.length = n ∧ ∀ i p, l[i]? = some p → Q i p
  | 0, _ => ⟨[], rfl, fun i p h => by simp at h⟩
  | n + 1, h => by
    obtain ⟨l, hl, hq⟩ := pick_list Q n (fun i hi => h i (by omega))
    obtain ⟨a, ha⟩ := h n (by omega)
    refine ⟨l ++ [a], by simp [hl], fun i p hp => ?_⟩
    by_cases hi : i < n
    · rw [List.getElem?_append_left (by omega)] at hp; exact hq i p hp
    · rw [List.getElem?_append_right (by omega)] at hp
      have : i - l.length = 0 := by
        rcases Nat.eq_zero_or_pos (i - l.length) with h | h
        · exact h
        · rw [List.getElem?_eq_none (by simp; omega)] at hp; cases hp
      rw [this] at hp
      simp at hp
      have : i = n := by omega
      subst this; subst hp; exact ha
theorem op_slice {P : Program} {w : World} {α : Type} (d : Kd α) (ok : α → Prop) {t e : TypeId} (ht : P.underlying t = some (.slice e)) (hc : P.cellsOf e = d.sz) (ho : ∀ {fuel : Nat} {cs : List Value} {x : DataW H × List MemPlace}, DataW.trod enc P w base spare held fuel e cs = some x → ∃ a, d.K w a cs ∧ ok a)
    {fuel : Nat} {cs : List Value} {x : DataW H × List MemPlace} (h : DataW.trod enc P w base spare held fuel t cs = some x) : ∃ (A : Option Addr) (c : Nat) (l : List α), cs = [.slice A l.length c] ∧ d.C w A l.length l ∧ l.length ≤ c ∧ (∀ a ∈ l, ok a) ∧ c ≤ maxLen := by
  rcases open_slice ht h with ⟨h0, -⟩ | ⟨a, len, cap, m, n, D, Pl, hcs, hb, hl, hm, hmm, -, hi⟩
  · exact ⟨none, 0, [], h0, Kd.C_nil _ _, Nat.le_refl _, fun a h => (by cases h), Nat.zero_le _⟩
  · have hlm : len ≤ m := by rw [hmm]; split <;> omega
    have hml : maxLen = 9223372036854775807 := rfl
    obtain ⟨l, hll, hq⟩ := pick_list (fun i (p : α) => ok p ∧ ∃ c : List Value, c.length = d.sz ∧ d.K w p c ∧ ∀ j u, c[j]? = some u → w.cell? (a.add (i * d.sz + j)) = some u) len (fun i hin => by
      obtain ⟨cs', hcc, htt⟩ := hi i (by omega)
      obtain ⟨p, hK, hok⟩ := ho htt
      rw [hc] at hcc
      obtain ⟨_, hcl, hat⟩ := World.cells?_some hcc
      refine ⟨p, hok, cs', hcl, hK, fun j u hu => ?_⟩
      have hj : j < d.sz := by rw [← hcl]; exact (List.getElem?_eq_some_iff.1 hu).1
      rw [← Go.Deep.add_add, hat j hj]; exact hu)
    subst hll
    refine ⟨some a, cap, l, hcs, ⟨rfl, by omega, fun _ => ⟨a, rfl, fun j p hp => (hq j p hp).2⟩⟩, hl, fun p hp => ?_, hm⟩
    obtain ⟨j, hj, rfl⟩ := List.mem_iff_getElem.1 hp
    exact (hq j _ (List.getElem?_eq_getElem hj)).1
theorem op_int {P : Program} {w : World} {t : TypeId} {k : IntKind} (ht : P.underlying t = some (.int k)) {fuel : Nat} {cs : List Value} {x : DataW H × List MemPlace} (h : DataW.trod enc P w base spare held fuel t cs = some x) : ∃ n, (Kd.int k).K w n cs ∧ (Lit.int k n).wf = true := by
  obtain ⟨n, rfl, -, hw⟩ := DataW.trod_int ht h
  exact ⟨n, rfl, hw⟩
theorem op_bool {P : Program} {w : World} {t : TypeId} (ht : P.underlying t = some .bool) {fuel : Nat} {cs : List Value} {x : DataW H × List MemPlace} (h : DataW.trod enc P w base spare held fuel t cs = some x) : ∃ n, Kd.bool.K w n cs ∧ True := by
  obtain ⟨n, rfl, -⟩ := DataW.trod_bool ht h
  exact ⟨n, rfl, trivial⟩
def okTask (t : S32) : Prop := (Lit.int .i64 t.f1).wf = true ∧ (Lit.int .i64 t.f2).wf = true ∧ (Lit.int .i64 t.f3).wf = true ∧ (Lit.int .i64 t.f4).wf = true ∧ (Lit.int .i64 t.f5).wf = true ∧ (Lit.int .i64 t.f6).wf = true ∧ (Lit.int .i64 t.f7).wf = true ∧ (Lit.int .i64 t.f8).wf = true ∧ (Lit.int .i64 t.f9).wf = true ∧ (Lit.int .i64 t.f10).wf = true ∧ t.f0.size ≤ maxLen
theorem op_Task {w : World} {fuel : Nat} {cs : List Value} {x : DataW H × List MemPlace} (h : DataW.trod enc Tryd.prog w base spare held fuel 32 cs = some x) : ∃ t : S32, (k32).K w t cs ∧ okTask t := by
  obtain ⟨xs, n, -, -, hlen, hxl, hf⟩ := DataW.trod_struct Tryd.underlying32 h
  rw [show Tryd.prog.cellsOf 32 = 11 by kernel_rfl] at hlen
  have hx : xs.length = 11 := hxl
  obtain ⟨c0, c1, c2, c3, c4, c5, c6, c7, c8, c9, c10, rfl⟩ : ∃ c0 c1 c2 c3 c4 c5 c6 c7 c8 c9 c10, cs = [c0, c1, c2, c3, c4, c5, c6, c7, c8, c9, c10] := by
    match cs, hlen with
    | [c0, c1, c2, c3, c4, c5, c6, c7, c8, c9, c10], _ => exact ⟨_, _, _, _, _, _, _, _, _, _, _, rfl⟩
  have g0 := hf 0 _ rfl
  rw [List.getElem?_eq_getElem (by omega)] at g0
  obtain ⟨v0, e0, -, w0⟩ := DataW.trod_string Tryd.underlying9 g0
  have e0 : [c0] = [.string v0] := e0
  cases e0
  have g1 := hf 1 _ rfl
  rw [List.getElem?_eq_getElem (by omega)] at g1
  obtain ⟨v1, e1, -, w1⟩ := DataW.trod_int Tryd.underlying3 g1
  have e1 : [c1] = [.int .i64 v1] := e1
  cases e1
  have g2 := hf 2 _ rfl
  rw [List.getElem?_eq_getElem (by omega)] at g2
  obtain ⟨v2, e2, -, w2⟩ := DataW.trod_int Tryd.underlying3 g2
  have e2 : [c2] = [.int .i64 v2] := e2
  cases e2
  have g3 := hf 3 _ rfl
  rw [List.getElem?_eq_getElem (by omega)] at g3
  obtain ⟨v3, e3, -, w3⟩ := DataW.trod_int Tryd.underlying3 g3
  have e3 : [c3] = [.int .i64 v3] := e3
  cases e3
  have g4 := hf 4 _ rfl
  rw [List.getElem?_eq_getElem (by omega)] at g4
  obtain ⟨v4, e4, -, w4⟩ := DataW.trod_int Tryd.underlying3 g4
  have e4 : [c4] = [.int .i64 v4] := e4
  cases e4
  have g5 := hf 5 _ rfl
  rw [List.getElem?_eq_getElem (by omega)] at g5
  obtain ⟨v5, e5, -, w5⟩ := DataW.trod_int Tryd.underlying3 g5
  have e5 : [c5] = [.int .i64 v5] := e5
  cases e5
  have g6 := hf 6 _ rfl
  rw [List.getElem?_eq_getElem (by omega)] at g6
  obtain ⟨v6, e6, -, w6⟩ := DataW.trod_int Tryd.underlying3 g6
  have e6 : [c6] = [.int .i64 v6] := e6
  cases e6
  have g7 := hf 7 _ rfl
  rw [List.getElem?_eq_getElem (by omega)] at g7
  obtain ⟨v7, e7, -, w7⟩ := DataW.trod_int Tryd.underlying3 g7
  have e7 : [c7] = [.int .i64 v7] := e7
  cases e7
  have g8 := hf 8 _ rfl
  rw [List.getElem?_eq_getElem (by omega)] at g8
  obtain ⟨v8, e8, -, w8⟩ := DataW.trod_int Tryd.underlying3 g8
  have e8 : [c8] = [.int .i64 v8] := e8
  cases e8
  have g9 := hf 9 _ rfl
  rw [List.getElem?_eq_getElem (by omega)] at g9
  obtain ⟨v9, e9, -, w9⟩ := DataW.trod_int Tryd.underlying3 g9
  have e9 : [c9] = [.int .i64 v9] := e9
  cases e9
  have g10 := hf 10 _ rfl
  rw [List.getElem?_eq_getElem (by omega)] at g10
  obtain ⟨v10, e10, -, w10⟩ := DataW.trod_int Tryd.underlying3 g10
  have e10 : [c10] = [.int .i64 v10] := e10
  cases e10
  exact ⟨⟨v0, v1, v2, v3, v4, v5, v6, v7, v8, v9, v10⟩, k32_mk w _, w1, w2, w3, w4, w5, w6, w7, w8, w9, w10, w0⟩
/-- A set by value. -/
theorem op_set {w : World} {r : Reach} {b0 : Nat} {v : Value} {d : DataW H} {ps : List MemPlace} (hv : Value.okWide Tryd.prog w r b0 24 v) (h : DataW.Trod enc Tryd.prog w base spare held 24 v d ps) :
    ∃ (b : Int) (A : Option Addr) (c : Nat) (ts : List TK), v = .agg #[.int .i64 b, .slice A ts.length c] ∧ Kd.C k32 w A ts.length ts ∧ ts.length ≤ c ∧ (∀ t ∈ ts, okTask t) ∧ (Lit.int .i64 b).wf = true := by
  obtain ⟨cs, rfl, hsz⟩ := okWide_struct Tryd.underlying24 hv
  obtain ⟨fuel, h⟩ := h
  obtain ⟨xs, n, -, -, hlen, hxl, hf⟩ := DataW.trod_struct Tryd.underlying24 h
  have hx : xs.length = 2 := hxl
  have hc2 : cs.size = 2 := hsz.trans (by kernel_rfl)
  obtain ⟨c0, c1, rfl⟩ : ∃ c0 c1, cs = #[c0, c1] := by
    obtain ⟨l⟩ := cs
    match l, hc2 with
    | [c0, c1], _ => exact ⟨_, _, rfl⟩
  have g0 := hf 0 _ rfl
  rw [List.getElem?_eq_getElem (by omega)] at g0
  obtain ⟨b, e0, -, w0⟩ := DataW.trod_int Tryd.underlying3 g0
  have e0 : [c0] = [.int .i64 b] := e0
  cases e0
  have g1 := hf 1 _ rfl
  rw [List.getElem?_eq_getElem (by omega)] at g1
  obtain ⟨A, c, ts, e1, hC, hc, hok, -⟩ := op_slice k32 okTask Tryd.underlying22 (by kernel_rfl) op_Task g1
  have e1 : [c1] = [.slice A ts.length c] := e1
  cases e1
  exact ⟨b, A, c, ts, rfl, hC, hc, hok, w0⟩
end
end Go.Proofs.YtphppahjkcnjlaaDoor.Q
