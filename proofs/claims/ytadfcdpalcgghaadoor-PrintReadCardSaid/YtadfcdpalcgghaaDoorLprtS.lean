-- PrintSets: the plain law, told of its walk.
-- NEEDS pendulum/pendulumlaw07.PrintSets
-- PLAIN
import Derived.Test.YtadfcdpalcgghaaDoorM0
import Derived.Test.YtadfcdpalcgghaaDoorQ16
import Derived.Test.YtadfcdpalcgghaaDoorHprtC
import Derived.Test.YtadfcdpalcgghaaDoorHprtK
import Derived.Test.YtadfcdpalcgghaaDoorM14
import Derived.Test.YtadfcdpalcgghaaDoorM12
import Derived.OpenShut
import Derived.WideShapes
namespace Go.Proofs.YtadfcdpalcgghaaDoor.Q
open Go.RowKit Go.Proofs.YtadfcdpalcgghaaDoorW.PrintWords Go.Proofs.YtadfcdpalcgghaaDoorW.PrintLast Go.Proofs.YtadfcdpalcgghaaDoorW.PrintMore
attribute [local go_sem] max2_int min2_int max_two min_two max_three min_three max_four min_four   -- for this text's walks alone
set_option linter.unusedVariables false
set_option linter.unusedSimpArgs false

open Go.ChangeShapes Go.WideShapes
theorem print_task_eq (t : TK) (hi : intT t) (hs : t.f0.size ≤ 1000000) : print_Task.f t.f0 t.f1 t.f2 t.f3 t.f4 t.f5 t.f6 t.f7 t.f8 t.f9 t.f10 = some ⟨(lineB t).toArray⟩ := by
 unfold print_Task.f
 rw [if_pos ⟨hi, hs⟩]
theorem print_set_right (b : Int) (ts : List TK) (hb : intI b) (hts : ∀ t ∈ ts, intT t ∧ t.f0.size ≤ 1000000) (hl : ts.length ≤ 50) (hr : (whyS b ts).1 = 0) : print_Set.f b ts = some (⟨(textB b ts).toArray⟩, 0) := by
 unfold print_Set.f
 rw [if_pos hr, if_pos ⟨hb, hts, hl⟩]
theorem print_set_wrong (b : Int) (ts : List TK) (hr : ¬(whyS b ts).1 = 0) : print_Set.f b ts = some (⟨#[]⟩, 1) := by
 unfold print_Set.f
 rw [if_neg hr]
theorem awake07 : pendulumlaw07_awake.f = some true := rfl
theorem PrintSets_pure (b : Int) (ts : List TK) (t : TK) (m : Int) (hb : intI b) (hts : ∀ t ∈ ts, intT t) (ht : intT t) : pendulumlaw07_PrintSets.f 300 b ts t.f0 t.f1 t.f2 t.f3 t.f4 t.f5 t.f6 t.f7 t.f8 t.f9 t.f10 m = some true := by
 obtain ⟨k, hk, hkk⟩ : ∃ k, 300 = k + 2 ∧ 250 ≤ k := ⟨298, rfl, by decide⟩
 rw [hk]
 unfold pendulumlaw07_PrintSets.f
 rw [awake07, Option.bind_some, if_pos rfl, few_eq b ts _ (by omega), Option.bind_some]
 cases hf : fewB ts with
 | false =>
  rw [if_neg (by decide), pendulumlaw07_PrintSets.j0, if_pos rfl, awake07]
  rfl
 | true =>
  rw [if_pos rfl]
  by_cases hn : ((t.f0.size : Int) > 100)
  ·rw [decide_eq_true hn, pendulumlaw07_PrintSets.j0, if_pos rfl, awake07]
   rfl
  ·rw [decide_eq_false hn, pendulumlaw07_PrintSets.j0, if_neg (by decide), print_task_eq t ht (by omega), task_ref t ht (by omega) (k + 1) (by omega), mode_eval, mode_ref]
   have hts2 : ∀ x ∈ ts, intT x ∧ x.f0.size ≤ 1000000 := fun x hx => ⟨hts x hx, by have := fewB_size hf x hx; omega⟩
   have hl := fewB_len hf
   by_cases hr : (whyS b ts).1 = 0
   ·rw [print_set_right b ts hb hts2 (by omega) hr]
    simp only [Option.bind_some, if_true]
    rw [pendulumlaw07_PrintSets.j1, if_neg (by simp), right_eq, Option.bind_some, if_pos (by rw [hr]; rfl), if_pos rfl, set_ref b ts hb hts2 (by omega) k (by omega), Option.bind_some]
    simp
   ·rw [print_set_wrong b ts hr]
    simp only [Option.bind_some, if_true]
    rw [pendulumlaw07_PrintSets.j1, if_neg (by simp), right_eq, Option.bind_some, if_neg (by simpa using hr), if_pos rfl]
    simp [Lib.toList_data]
theorem intI_of {n : Int} (h : (Lit.int .i64 n).wf = true) : intI n := by
 exact bounds_i64 h
theorem intT_of {t : TK} (h : okTask t) : intT t := by
 obtain ⟨h1, h2, h3, h4, h5, h6, h7, h8, h9, h10, -⟩ := h
 intro n hn
 simp only [List.mem_cons, List.not_mem_nil, or_false] at hn
 rcases hn with rfl | rfl | rfl | rfl | rfl | rfl | rfl | rfl | rfl | rfl
 ·exact intI_of h1
 ·exact intI_of h2
 ·exact intI_of h3
 ·exact intI_of h4
 ·exact intI_of h5
 ·exact intI_of h6
 ·exact intI_of h7
 ·exact intI_of h8
 ·exact intI_of h9
 ·exact intI_of h10
set_option maxRecDepth 100000 in
theorem op_taskv {H : Type} {enc : TypeId × Value → H} {base : Nat} {spare : Nat → Bool} {held : Bool} {w : World} {r : Reach} {b0 : Nat} {v : Value} {d : DataW H} {ps : List MemPlace} (hv : Value.okWide Tryd.prog w r b0 26 v) (h : DataW.Trod enc Tryd.prog w base spare held 26 v d ps) :
  ∃ t : TK, v = .agg #[.string t.f0, .int .i64 t.f1, .int .i64 t.f2, .int .i64 t.f3, .int .i64 t.f4, .int .i64 t.f5, .int .i64 t.f6, .int .i64 t.f7, .int .i64 t.f8, .int .i64 t.f9, .int .i64 t.f10] ∧ okTask t := by
 obtain ⟨cs, rfl, hsz⟩ := okWide_struct Tryd.underlying26 hv
 obtain ⟨fuel, h⟩ := h
 obtain ⟨t, hk, ho⟩ := op_Task h
 have e := k26_open hk
 refine ⟨t, ?_, ho⟩
 obtain ⟨l⟩ := cs
 have e2 : l = _ := e
 rw [e2]
theorem PrintSets_law (b0 : Int) (A0 : Option Addr) (c0 : Nat) (ts0 : List TK) (t1 : TK) (a2 : Int) (W : World) (hC0 : Kd.C k26 W A0 ts0.length ts0) (hc0 : ts0.length ≤ c0) (hok0 : ∀ t ∈ ts0, okTask t) (hb0 : (Lit.int .i64 b0).wf = true) (hok1 : okTask t1) (_ : (Lit.int .i64 a2).wf = true) (htab : TabS W.heap.size W) :
  Calls Tryd.prog 3 #[.agg #[.int .i64 b0, .slice A0 ts0.length c0], .agg #[.string t1.f0, .int .i64 t1.f1, .int .i64 t1.f2, .int .i64 t1.f3, .int .i64 t1.f4, .int .i64 t1.f5, .int .i64 t1.f6, .int .i64 t1.f7, .int .i64 t1.f8, .int .i64 t1.f9, .int .i64 t1.f10], .int .i64 a2] W fun e w' => e = .returned (.bool true) ∧ Below W.heap.size W w' :=
 pendulumlaw07_PrintSets.calls 300 b0 A0 c0 ts0 t1.f0 t1.f1 t1.f2 t1.f3 t1.f4 t1.f5 t1.f6 t1.f7 t1.f8 t1.f9 t1.f10 a2 true W hC0 hc0 (PrintSets_pure b0 ts0 t1 a2 (intI_of hb0) (fun t ht => intT_of (hok0 t ht)) (intT_of hok1)) rfl htab
end Go.Proofs.YtadfcdpalcgghaaDoor.Q
