-- TaskEdges: walked by hand (printed by wip/gen05.py).
-- NEEDS pendulum/pendulumref05.Few pendulum/pendulumlaw05.awake pendulum/pendulumref05.Right pendulum/task.Right pendulum/task.Hard pendulum/task.Why
import Derived.Test.YtphppahjkcnjlaaDoorQ0
import Derived.Test.YtphppahjkcnjlaaDoorQ7
import Derived.Test.YtphppahjkcnjlaaDoorQ10
import Derived.Test.YtphppahjkcnjlaaDoorHtaskC
import Derived.Test.YtphppahjkcnjlaaDoorHwhyR
import Derived.Test.YtphppahjkcnjlaaDoorLlawA
import Derived.Test.YtphppahjkcnjlaaDoorLlit
import Derived.Test.YtphppahjkcnjlaaDoorLright
import Derived.Test.YtphppahjkcnjlaaDoorLrow
import Derived.Test.YtphppahjkcnjlaaDoorLsetS
import Derived.Test.YtphppahjkcnjlaaDoorLtask
import Derived.Test.YtphppahjkcnjlaaDoorLlawA
import Derived.Test.YtphppahjkcnjlaaDoorLrow
import Derived.Test.YtphppahjkcnjlaaDoorLright
import Derived.Test.YtphppahjkcnjlaaDoorHtaskP
import Derived.IntWalk
import Derived.Test.YtphppahjkcnjlaaDoorLlit
import Derived.Test.YtphppahjkcnjlaaDoorHtaskD
import Derived.Test.YtphppahjkcnjlaaDoorHwhyR
import Derived.Test.YtphppahjkcnjlaaDoorLregL
namespace Go.Proofs.YtphppahjkcnjlaaDoor.Q
open Go.RowKit Go.Proofs.YtphppahjkcnjlaaDoorW.PrintWords Go.Proofs.YtphppahjkcnjlaaDoorW.PrintLast Go.Proofs.YtphppahjkcnjlaaDoorW.PrintMore
attribute [local go_sem] max2_int min2_int max_two min_two max_three min_three max_four min_four   -- for this text's walks alone
set_option linter.unusedVariables false
set_option linter.unusedSimpArgs false

set_option maxHeartbeats 1000000 in
set_option maxRecDepth 100000 in
theorem edge_one (t : TK) (W : World) : Calls Tryd.prog 17 #[.agg #[.string t.f0, .int .i64 t.f1, .int .i64 t.f2, .int .i64 t.f3, .int .i64 t.f4, .int .i64 t.f5, .int .i64 t.f6, .int .i64 t.f7, .int .i64 t.f8, .int .i64 t.f9, .int .i64 t.f10]] W fun e w' => e = .returned (.int .i64 (whyS 1 [t]).1) ∧ Below W.heap.size W w' := by
  have HB : Aside0 (∀ o1 o2, Below W.heap.size W ((W.alloc o1).alloc o2)) := ⟨fun o1 o2 => below_alloc (below_alloc (Below.refl _ _) _) _⟩
  have HC : Aside0 (∀ o1, Kd.C k32 ((W.alloc o1).alloc (.cells #[.string t.f0, .int .i64 t.f1, .int .i64 t.f2, .int .i64 t.f3, .int .i64 t.f4, .int .i64 t.f5, .int .i64 t.f6, .int .i64 t.f7, .int .i64 t.f8, .int .i64 t.f9, .int .i64 t.f10] 32 (0, 0))) (some ⟨W.heap.size + 1, 0, none⟩) 1 [t]) := ⟨fun o1 => C_litT (W.alloc o1) (W.heap.size + 1) (by simp) [t] (by simp) _ _ (lit_one t)⟩
  go_enter Tryd.func17, Tryd.ntmps17
  go_wp2_with fail
  refine (why_ask 1 (some ⟨W.heap.size + 1, 0, none⟩) 1 [t] _ (HC.out _) (Nat.le_refl _)).mono ?_
  rintro e wA ⟨rfl, hb⟩
  have HBA := Aside0.mk (below_step (HB.out _ _) hb)
  clear hb HC HB
  go_wp2_with fail
  go_ret
  exact ⟨rfl, HBA.out⟩
set_option maxHeartbeats 4000000 in
set_option maxRecDepth 100000 in
theorem TaskEdges_law (b : Int) (A : Option Addr) (c : Nat) (ts : List TK) (a : Int) (W : World) (hC : Kd.C k32 W A ts.length ts) (hc : ts.length ≤ c) (hokt : ∀ t ∈ ts, okTask t) (hbw : (Lit.int .i64 b).wf = true) (ha : (Lit.int .u8 a).wf = true) :
    Calls Tryd.prog 7 #[.agg #[.int .i64 b, .slice A ts.length c], .int .u8 a] W fun e w' => e = .returned (.bool true) ∧ Below W.heap.size W w' := by
  have HC := Aside0.mk hC
  have HOK := Aside0.mk hokt
  obtain ⟨W1, hW1⟩ : ∃ W1, W1 = W.alloc (.cells #[.int .i64 b, .slice A ts.length c] 24 (0, 0)) := ⟨_, rfl⟩
  have HB : Aside0 (Below W.heap.size W W1) := ⟨by rw [hW1]; exact below_alloc (Below.refl _ _) _⟩
  obtain ⟨gs, hgs⟩ : ∃ gs, W.heap.size = gs := ⟨_, rfl⟩
  have HK : Aside0 (W1.heap[gs]? = some (.cells #[.int .i64 b, .slice A ts.length c] 24 (0, 0))) := ⟨by rw [hW1, ← hgs]; exact blk_new W _⟩
  have HW1 := Aside0.mk hW1
  have HGS := Aside0.mk hgs
  clear hC hokt hbw hW1
  obtain ⟨fb, hfb⟩ : ∃ fb, fewB ts = fb := ⟨_, rfl⟩
  have HFB := Aside0.mk hfb
  obtain ⟨rb, hrb⟩ : ∃ rb, ((whyS b ts).1 == 0) = rb := ⟨_, rfl⟩
  have HRB := Aside0.mk hrb
  clear hfb hrb
  go_enter Tryd.func7, Tryd.ntmps7
  go_wp2_with fail
  rw [← HW1.out]
  try rw [hgs]
  clear hgs
  refine (pendulumlaw05_awake.calls true _ law05_awake).mono ?_
  rintro e wA ⟨rfl, hb⟩
  have HB1 := Aside0.mk (below_step HB.out hb); have HK1 := Aside0.mk (blk_below HK.out hb); clear HB HK hb; have HB := HB1; have HK := HK1; clear HB1 HK1
  have s0 := blk_cell HK.out 0
  have s1 := blk_cell HK.out 1
  go_wp2_with fail
  refine (pendulumref05_Few.calls 100 b A c ts fb _ (Kd.C_below HC.out HB.out) hc (by rw [few_eq b ts 100 (by omega), HFB.out])).mono ?_
  rintro e wB ⟨rfl, hb⟩
  have HB1 := Aside0.mk (below_step HB.out hb); have HK1 := Aside0.mk (blk_below HK.out hb); clear HB HK hb; have HB := HB1; have HK := HK1; clear HB1 HK1
  clear s0 s1
  cases fb with
  | false =>
    go_wp2_with fail
    refine (pendulumlaw05_awake.calls true _ law05_awake).mono ?_
    rintro e wC ⟨rfl, hb⟩
    have HB1 := Aside0.mk (below_step HB.out hb); have HK1 := Aside0.mk (blk_below HK.out hb); clear HB HK hb; have HB := HB1; have HK := HK1; clear HB1 HK1
    go_wp2_with fail
    go_ret
    exact ⟨rfl, HB.out⟩
  | true =>
    have s0 := blk_cell HK.out 0
    have s1 := blk_cell HK.out 1
    go_wp2_with fail
    refine (pendulumref05_Right.calls b A c ts rb _ (Kd.C_below HC.out HB.out) hc (by rw [right_eq, HRB.out])).mono ?_
    rintro e wC ⟨rfl, hb⟩
    have HB1 := Aside0.mk (below_step HB.out hb); have HK1 := Aside0.mk (blk_below HK.out hb); clear HB HK hb; have HB := HB1; have HK := HK1; clear HB1 HK1
    clear s0 s1
    cases rb with
    | false =>
      go_wp2_with fail
      refine (pendulumlaw05_awake.calls true _ law05_awake).mono ?_
      rintro e wD ⟨rfl, hb⟩
      have HB1 := Aside0.mk (below_step HB.out hb); have HK1 := Aside0.mk (blk_below HK.out hb); clear HB HK hb; have HB := HB1; have HK := HK1; clear HB1 HK1
      go_wp2_with fail
      go_ret
      exact ⟨rfl, HB.out⟩
    | true =>
      have hR : RightS b ts := (rightS_iff b ts).1 (by have := HRB.out; simpa using this)
      have HR := Aside0.mk hR
      have hl1 := hR.n0
      have hl16 := hR.n1
      clear hR
      have ha2 := Go.bounds_u8 ha
      have s0 := blk_cell HK.out 0
      have s1 := blk_cell HK.out 1
      have t0 := Int.tmod_nonneg (ts.length : Int) (show 0 ≤ a by omega)
      have t1 := Int.tmod_lt_of_pos a (show 0 < (ts.length : Int) by omega)
      have tz : ((ts.length : Int) == 0) = false := beq_eq_false_iff_ne.2 (by omega)
      obtain ⟨m, hm⟩ : ∃ m, Int.tmod a (ts.length : Int) = m := ⟨_, rfl⟩
      rw [hm] at t0 t1
      obtain ⟨n, rfl⟩ : ∃ n : Nat, m = (n : Int) := ⟨m.toNat, by omega⟩
      obtain ⟨ad, e, x0, x1, x2, x3, x4, x5, x6, x7, x8, x9, x10⟩ := at_T32 (Kd.C_below HC.out HB.out) (n : Int) (by omega) t1
      cases e
      obtain ⟨t, ht⟩ : ∃ t, rd_T32 ts (n : Int) = t := ⟨_, rfl⟩
      rw [ht] at x0 x1 x2 x3 x4 x5 x6 x7 x8 x9 x10
      have hnl : n < ts.length := by omega
      have htm : t ∈ ts := by rw [← ht]; simp [rd_T32, List.getD_eq_getElem?_getD, List.getElem?_eq_getElem hnl]
      have HT := Aside0.mk (HR.out.task htm)
      simp only [Int.toNat_natCast] at x0 x1 x2 x3 x4 x5 x6 x7 x8 x9 x10
      have hw1 : IntKind.i64.wrap (t.f1 + 1) = t.f1 + 1 := by have := HT.out.timed; exact IntWalk.i64_in _ (by omega)
      have hne : ¬ ts = [] := fun e => by rw [e] at hnl; simp at hnl
      have sA : ∀ o, (wC.alloc o).cell? ⟨gs, 1, none⟩ = some (.slice (some ad) ts.length c) := fun o => blk_cell (blk_alloc HK.out o) 1
      have xA0 : ∀ o, (wC.alloc o).cell? (ad.add (n * 11)) = some (.string t.f0) := fun o => pw_cell_below (below_alloc (Below.refl _ _) o) x0
      have xA1 : ∀ o, (wC.alloc o).cell? ⟨(ad.add (n * 11)).block, (ad.add (n * 11)).off + 1, none⟩ = some (.int .i64 t.f1) := fun o => pw_cell_below (below_alloc (Below.refl _ _) o) x1
      have xA2 : ∀ o, (wC.alloc o).cell? ⟨(ad.add (n * 11)).block, (ad.add (n * 11)).off + 2, none⟩ = some (.int .i64 t.f2) := fun o => pw_cell_below (below_alloc (Below.refl _ _) o) x2
      have xA3 : ∀ o, (wC.alloc o).cell? ⟨(ad.add (n * 11)).block, (ad.add (n * 11)).off + 3, none⟩ = some (.int .i64 t.f3) := fun o => pw_cell_below (below_alloc (Below.refl _ _) o) x3
      have xA4 : ∀ o, (wC.alloc o).cell? ⟨(ad.add (n * 11)).block, (ad.add (n * 11)).off + 4, none⟩ = some (.int .i64 t.f4) := fun o => pw_cell_below (below_alloc (Below.refl _ _) o) x4
      have xA5 : ∀ o, (wC.alloc o).cell? ⟨(ad.add (n * 11)).block, (ad.add (n * 11)).off + 5, none⟩ = some (.int .i64 t.f5) := fun o => pw_cell_below (below_alloc (Below.refl _ _) o) x5
      have xA6 : ∀ o, (wC.alloc o).cell? ⟨(ad.add (n * 11)).block, (ad.add (n * 11)).off + 6, none⟩ = some (.int .i64 t.f6) := fun o => pw_cell_below (below_alloc (Below.refl _ _) o) x6
      have xA7 : ∀ o, (wC.alloc o).cell? ⟨(ad.add (n * 11)).block, (ad.add (n * 11)).off + 7, none⟩ = some (.int .i64 t.f7) := fun o => pw_cell_below (below_alloc (Below.refl _ _) o) x7
      have xA8 : ∀ o, (wC.alloc o).cell? ⟨(ad.add (n * 11)).block, (ad.add (n * 11)).off + 8, none⟩ = some (.int .i64 t.f8) := fun o => pw_cell_below (below_alloc (Below.refl _ _) o) x8
      have xA9 : ∀ o, (wC.alloc o).cell? ⟨(ad.add (n * 11)).block, (ad.add (n * 11)).off + 9, none⟩ = some (.int .i64 t.f9) := fun o => pw_cell_below (below_alloc (Below.refl _ _) o) x9
      have xA10 : ∀ o, (wC.alloc o).cell? ⟨(ad.add (n * 11)).block, (ad.add (n * 11)).off + 10, none⟩ = some (.int .i64 t.f10) := fun o => pw_cell_below (below_alloc (Below.refl _ _) o) x10
      clear ht htm hl1 hl16 ha hnl
      have HNM : Aside0 (∀ x : TK, x.f0 = t.f0 → nmB x [] = false) := ⟨fun x hx => by rw [nmB_nil, hx, HT.out.named]; rfl⟩
      have HVa : Aside0 ((whyS 1 [(⟨t.f0, t.f1, t.f1 + 1, t.f3, t.f4, t.f5, t.f6, t.f7, t.f8, t.f9, t.f10⟩ : TK)]).1 = 4) := ⟨wrong_one (wT4 (HNM.out _ rfl) (by have h1 := HT.out.timed; show t.f3 < 1 ∨ t.f3 > t.f1 + 1 ∨ t.f1 + 1 > t.f1 ∨ t.f1 > 1048576 ∨ t.f6 < 0 ∨ t.f6 > 1000; omega)) (by decide)⟩
      have HVb : Aside0 ((whyS 1 [(⟨t.f0, 1048576, t.f2, t.f3, t.f4, t.f5, t.f6, t.f7, t.f8, t.f9, t.f10⟩ : TK)]).1 = 0) := ⟨right_one ⟨HT.out.named, by have h1 := HT.out.timed; show 1 ≤ 1048576 ∧ 1048576 ≤ 1048576 ∧ 1 ≤ t.f2 ∧ t.f2 ≤ 1048576 ∧ 1 ≤ t.f3 ∧ t.f3 ≤ t.f2 ∧ 0 ≤ t.f6 ∧ t.f6 ≤ 1000; omega, HT.out.modeA, fun h => by have h1 := HT.out.timed; have h2 := HT.out.mode1 h; show 1 ≤ t.f5 ∧ t.f5 ≤ t.f3 ∧ t.f4 = 0; omega, fun h => by have h1 := HT.out.timed; have h2 := HT.out.mode2 h; show 1 ≤ t.f4 ∧ t.f4 ≤ t.f2 ∧ t.f5 = 0; omega, by have h1 := HT.out.firm; show 1 ≤ t.f8 ∧ t.f8 ≤ 64 ∧ 1 ≤ t.f7 ∧ t.f7 ≤ t.f8; omega, by have h1 := HT.out.prio; show 0 ≤ t.f10 ∧ t.f10 ≤ 255; omega⟩⟩
      have HVc : Aside0 ((whyS 1 [(⟨t.f0, 1048577, t.f2, t.f3, t.f4, t.f5, t.f6, t.f7, t.f8, t.f9, t.f10⟩ : TK)]).1 = 4) := ⟨wrong_one (wT4 (HNM.out _ rfl) (by have h1 := HT.out.timed; show t.f3 < 1 ∨ t.f3 > t.f2 ∨ t.f2 > 1048577 ∨ 1048577 > 1048576 ∨ t.f6 < 0 ∨ t.f6 > 1000; omega)) (by decide)⟩
      have HVd : Aside0 ((whyS 1 [(⟨t.f0, t.f1, t.f2, t.f3, t.f4, t.f5, t.f6, 64, 64, t.f9, t.f10⟩ : TK)]).1 = 0) := ⟨right_one ⟨HT.out.named, by have h1 := HT.out.timed; show 1 ≤ t.f1 ∧ t.f1 ≤ 1048576 ∧ 1 ≤ t.f2 ∧ t.f2 ≤ t.f1 ∧ 1 ≤ t.f3 ∧ t.f3 ≤ t.f2 ∧ 0 ≤ t.f6 ∧ t.f6 ≤ 1000; omega, HT.out.modeA, fun h => by have h1 := HT.out.timed; have h2 := HT.out.mode1 h; show 1 ≤ t.f5 ∧ t.f5 ≤ t.f3 ∧ t.f4 = 0; omega, fun h => by have h1 := HT.out.timed; have h2 := HT.out.mode2 h; show 1 ≤ t.f4 ∧ t.f4 ≤ t.f2 ∧ t.f5 = 0; omega, by have h1 := HT.out.firm; show 1 ≤ 64 ∧ 64 ≤ 64 ∧ 1 ≤ 64 ∧ 64 ≤ 64; omega, by have h1 := HT.out.prio; show 0 ≤ t.f10 ∧ t.f10 ≤ 255; omega⟩⟩
      have HVe : Aside0 ((whyS 1 [(⟨t.f0, t.f1, t.f2, t.f3, t.f4, t.f5, t.f6, 64, 65, t.f9, t.f10⟩ : TK)]).1 = 6) := ⟨wrong_one (wT6 (HNM.out _ rfl) (by have h1 := HT.out.timed; show 1 ≤ t.f3 ∧ t.f3 ≤ t.f2 ∧ t.f2 ≤ t.f1 ∧ t.f1 ≤ 1048576 ∧ 0 ≤ t.f6 ∧ t.f6 ≤ 1000; omega) (md_ok (⟨t.f0, t.f1, t.f2, t.f3, t.f4, t.f5, t.f6, 64, 65, t.f9, t.f10⟩ : TK) HT.out.modeA.1 HT.out.modeA.2 HT.out.mode1 (fun h => HT.out.mode2 (fun e => by rw [e] at h; exact absurd h (by decide)))) (by show (64 : Int) < 1 ∨ (64 : Int) > 65 ∨ (65 : Int) > 64; decide)) (by decide)⟩
      have HVf : Aside0 ((whyS 1 [(⟨t.f0, t.f1, t.f2, t.f3, t.f4, t.f5, 1000, t.f7, t.f8, t.f9, t.f10⟩ : TK)]).1 = 0) := ⟨right_one ⟨HT.out.named, by have h1 := HT.out.timed; show 1 ≤ t.f1 ∧ t.f1 ≤ 1048576 ∧ 1 ≤ t.f2 ∧ t.f2 ≤ t.f1 ∧ 1 ≤ t.f3 ∧ t.f3 ≤ t.f2 ∧ 0 ≤ 1000 ∧ 1000 ≤ 1000; omega, HT.out.modeA, fun h => by have h1 := HT.out.timed; have h2 := HT.out.mode1 h; show 1 ≤ t.f5 ∧ t.f5 ≤ t.f3 ∧ t.f4 = 0; omega, fun h => by have h1 := HT.out.timed; have h2 := HT.out.mode2 h; show 1 ≤ t.f4 ∧ t.f4 ≤ t.f2 ∧ t.f5 = 0; omega, by have h1 := HT.out.firm; show 1 ≤ t.f8 ∧ t.f8 ≤ 64 ∧ 1 ≤ t.f7 ∧ t.f7 ≤ t.f8; omega, by have h1 := HT.out.prio; show 0 ≤ t.f10 ∧ t.f10 ≤ 255; omega⟩⟩
      have HVg : Aside0 ((whyS 1 [(⟨t.f0, t.f1, t.f2, t.f3, t.f4, t.f5, 1001, t.f7, t.f8, t.f9, t.f10⟩ : TK)]).1 = 4) := ⟨wrong_one (wT4 (HNM.out _ rfl) (by have h1 := HT.out.timed; show t.f3 < 1 ∨ t.f3 > t.f2 ∨ t.f2 > t.f1 ∨ t.f1 > 1048576 ∨ 1001 < 0 ∨ 1001 > 1000; omega)) (by decide)⟩
      have HVh : Aside0 ((whyS 1 [(⟨t.f0, t.f1, t.f2, t.f3, t.f4, t.f5, t.f6, t.f7, t.f8, t.f9, 255⟩ : TK)]).1 = 0) := ⟨right_one ⟨HT.out.named, by have h1 := HT.out.timed; show 1 ≤ t.f1 ∧ t.f1 ≤ 1048576 ∧ 1 ≤ t.f2 ∧ t.f2 ≤ t.f1 ∧ 1 ≤ t.f3 ∧ t.f3 ≤ t.f2 ∧ 0 ≤ t.f6 ∧ t.f6 ≤ 1000; omega, HT.out.modeA, fun h => by have h1 := HT.out.timed; have h2 := HT.out.mode1 h; show 1 ≤ t.f5 ∧ t.f5 ≤ t.f3 ∧ t.f4 = 0; omega, fun h => by have h1 := HT.out.timed; have h2 := HT.out.mode2 h; show 1 ≤ t.f4 ∧ t.f4 ≤ t.f2 ∧ t.f5 = 0; omega, by have h1 := HT.out.firm; show 1 ≤ t.f8 ∧ t.f8 ≤ 64 ∧ 1 ≤ t.f7 ∧ t.f7 ≤ t.f8; omega, by have h1 := HT.out.prio; show 0 ≤ 255 ∧ 255 ≤ 255; omega⟩⟩
      have HVk : Aside0 ((whyS 1 [(⟨t.f0, t.f1, t.f2, t.f3, t.f4, t.f5, t.f6, t.f7, t.f8, t.f9, 256⟩ : TK)]).1 = 7) := ⟨wrong_one (wT7 (HNM.out _ rfl) (by have h1 := HT.out.timed; show 1 ≤ t.f3 ∧ t.f3 ≤ t.f2 ∧ t.f2 ≤ t.f1 ∧ t.f1 ≤ 1048576 ∧ 0 ≤ t.f6 ∧ t.f6 ≤ 1000; omega) (md_ok (⟨t.f0, t.f1, t.f2, t.f3, t.f4, t.f5, t.f6, t.f7, t.f8, t.f9, 256⟩ : TK) HT.out.modeA.1 HT.out.modeA.2 HT.out.mode1 (fun h => HT.out.mode2 (fun e => by rw [e] at h; exact absurd h (by decide)))) (by have h1 := HT.out.firm; show 1 ≤ t.f7 ∧ t.f7 ≤ t.f8 ∧ t.f8 ≤ 64; omega) (by rw [prB_nil2 _ (by show (0 : Int) ≤ 256; decide)]; rfl)) (by decide)⟩
      go_wp2_with fail
      go_region
      go_wp2_with fail
      obtain ⟨wz, hwz⟩ : ∃ wz, wz = ((((((((((wC.alloc (.cells #[.string t.f0, .int .i64 t.f1, .int .i64 t.f2, .int .i64 t.f3, .int .i64 t.f4, .int .i64 t.f5, .int .i64 t.f6, .int .i64 t.f7, .int .i64 t.f8, .int .i64 t.f9, .int .i64 t.f10] 32 (0, 0))).alloc (.cells #[.string t.f0, .int .i64 t.f1, .int .i64 (t.f1 + 1), .int .i64 t.f3, .int .i64 t.f4, .int .i64 t.f5, .int .i64 t.f6, .int .i64 t.f7, .int .i64 t.f8, .int .i64 t.f9, .int .i64 t.f10] 32 (0, 0))).alloc (.cells #[.string t.f0, .int .i64 1048576, .int .i64 t.f2, .int .i64 t.f3, .int .i64 t.f4, .int .i64 t.f5, .int .i64 t.f6, .int .i64 t.f7, .int .i64 t.f8, .int .i64 t.f9, .int .i64 t.f10] 32 (0, 0))).alloc (.cells #[.string t.f0, .int .i64 1048577, .int .i64 t.f2, .int .i64 t.f3, .int .i64 t.f4, .int .i64 t.f5, .int .i64 t.f6, .int .i64 t.f7, .int .i64 t.f8, .int .i64 t.f9, .int .i64 t.f10] 32 (0, 0))).alloc (.cells #[.string t.f0, .int .i64 t.f1, .int .i64 t.f2, .int .i64 t.f3, .int .i64 t.f4, .int .i64 t.f5, .int .i64 t.f6, .int .i64 64, .int .i64 64, .int .i64 t.f9, .int .i64 t.f10] 32 (0, 0))).alloc (.cells #[.string t.f0, .int .i64 t.f1, .int .i64 t.f2, .int .i64 t.f3, .int .i64 t.f4, .int .i64 t.f5, .int .i64 t.f6, .int .i64 64, .int .i64 65, .int .i64 t.f9, .int .i64 t.f10] 32 (0, 0))).alloc (.cells #[.string t.f0, .int .i64 t.f1, .int .i64 t.f2, .int .i64 t.f3, .int .i64 t.f4, .int .i64 t.f5, .int .i64 1000, .int .i64 t.f7, .int .i64 t.f8, .int .i64 t.f9, .int .i64 t.f10] 32 (0, 0))).alloc (.cells #[.string t.f0, .int .i64 t.f1, .int .i64 t.f2, .int .i64 t.f3, .int .i64 t.f4, .int .i64 t.f5, .int .i64 1001, .int .i64 t.f7, .int .i64 t.f8, .int .i64 t.f9, .int .i64 t.f10] 32 (0, 0))).alloc (.cells #[.string t.f0, .int .i64 t.f1, .int .i64 t.f2, .int .i64 t.f3, .int .i64 t.f4, .int .i64 t.f5, .int .i64 t.f6, .int .i64 t.f7, .int .i64 t.f8, .int .i64 t.f9, .int .i64 255] 32 (0, 0))).alloc (.cells #[.string t.f0, .int .i64 t.f1, .int .i64 t.f2, .int .i64 t.f3, .int .i64 t.f4, .int .i64 t.f5, .int .i64 t.f6, .int .i64 t.f7, .int .i64 t.f8, .int .i64 t.f9, .int .i64 256] 32 (0, 0))).drew := ⟨_, rfl⟩
      have HGt : Aside0 (wz.heap[wC.heap.size]? = some (.cells #[.string t.f0, .int .i64 t.f1, .int .i64 t.f2, .int .i64 t.f3, .int .i64 t.f4, .int .i64 t.f5, .int .i64 t.f6, .int .i64 t.f7, .int .i64 t.f8, .int .i64 t.f9, .int .i64 t.f10] 32 (0, 0))) := ⟨by
        rw [hwz]
        refine (show ((((((((((wC.alloc (.cells #[.string t.f0, .int .i64 t.f1, .int .i64 t.f2, .int .i64 t.f3, .int .i64 t.f4, .int .i64 t.f5, .int .i64 t.f6, .int .i64 t.f7, .int .i64 t.f8, .int .i64 t.f9, .int .i64 t.f10] 32 (0, 0))).alloc (.cells #[.string t.f0, .int .i64 t.f1, .int .i64 (t.f1 + 1), .int .i64 t.f3, .int .i64 t.f4, .int .i64 t.f5, .int .i64 t.f6, .int .i64 t.f7, .int .i64 t.f8, .int .i64 t.f9, .int .i64 t.f10] 32 (0, 0))).alloc (.cells #[.string t.f0, .int .i64 1048576, .int .i64 t.f2, .int .i64 t.f3, .int .i64 t.f4, .int .i64 t.f5, .int .i64 t.f6, .int .i64 t.f7, .int .i64 t.f8, .int .i64 t.f9, .int .i64 t.f10] 32 (0, 0))).alloc (.cells #[.string t.f0, .int .i64 1048577, .int .i64 t.f2, .int .i64 t.f3, .int .i64 t.f4, .int .i64 t.f5, .int .i64 t.f6, .int .i64 t.f7, .int .i64 t.f8, .int .i64 t.f9, .int .i64 t.f10] 32 (0, 0))).alloc (.cells #[.string t.f0, .int .i64 t.f1, .int .i64 t.f2, .int .i64 t.f3, .int .i64 t.f4, .int .i64 t.f5, .int .i64 t.f6, .int .i64 64, .int .i64 64, .int .i64 t.f9, .int .i64 t.f10] 32 (0, 0))).alloc (.cells #[.string t.f0, .int .i64 t.f1, .int .i64 t.f2, .int .i64 t.f3, .int .i64 t.f4, .int .i64 t.f5, .int .i64 t.f6, .int .i64 64, .int .i64 65, .int .i64 t.f9, .int .i64 t.f10] 32 (0, 0))).alloc (.cells #[.string t.f0, .int .i64 t.f1, .int .i64 t.f2, .int .i64 t.f3, .int .i64 t.f4, .int .i64 t.f5, .int .i64 1000, .int .i64 t.f7, .int .i64 t.f8, .int .i64 t.f9, .int .i64 t.f10] 32 (0, 0))).alloc (.cells #[.string t.f0, .int .i64 t.f1, .int .i64 t.f2, .int .i64 t.f3, .int .i64 t.f4, .int .i64 t.f5, .int .i64 1001, .int .i64 t.f7, .int .i64 t.f8, .int .i64 t.f9, .int .i64 t.f10] 32 (0, 0))).alloc (.cells #[.string t.f0, .int .i64 t.f1, .int .i64 t.f2, .int .i64 t.f3, .int .i64 t.f4, .int .i64 t.f5, .int .i64 t.f6, .int .i64 t.f7, .int .i64 t.f8, .int .i64 t.f9, .int .i64 255] 32 (0, 0))).alloc (.cells #[.string t.f0, .int .i64 t.f1, .int .i64 t.f2, .int .i64 t.f3, .int .i64 t.f4, .int .i64 t.f5, .int .i64 t.f6, .int .i64 t.f7, .int .i64 t.f8, .int .i64 t.f9, .int .i64 256] 32 (0, 0))).heap[wC.heap.size]? = _ from ?_)
        refine blk_alloc ?_ _
        refine blk_alloc ?_ _
        refine blk_alloc ?_ _
        refine blk_alloc ?_ _
        refine blk_alloc ?_ _
        refine blk_alloc ?_ _
        refine blk_alloc ?_ _
        refine blk_alloc ?_ _
        refine blk_alloc ?_ _
        have h := blk_new wC (.cells #[.string t.f0, .int .i64 t.f1, .int .i64 t.f2, .int .i64 t.f3, .int .i64 t.f4, .int .i64 t.f5, .int .i64 t.f6, .int .i64 t.f7, .int .i64 t.f8, .int .i64 t.f9, .int .i64 t.f10] 32 (0, 0))
        simpa using h⟩
      have HGa : Aside0 (wz.heap[wC.heap.size + 1]? = some (.cells #[.string t.f0, .int .i64 t.f1, .int .i64 (t.f1 + 1), .int .i64 t.f3, .int .i64 t.f4, .int .i64 t.f5, .int .i64 t.f6, .int .i64 t.f7, .int .i64 t.f8, .int .i64 t.f9, .int .i64 t.f10] 32 (0, 0))) := ⟨by
        rw [hwz]
        refine (show ((((((((((wC.alloc (.cells #[.string t.f0, .int .i64 t.f1, .int .i64 t.f2, .int .i64 t.f3, .int .i64 t.f4, .int .i64 t.f5, .int .i64 t.f6, .int .i64 t.f7, .int .i64 t.f8, .int .i64 t.f9, .int .i64 t.f10] 32 (0, 0))).alloc (.cells #[.string t.f0, .int .i64 t.f1, .int .i64 (t.f1 + 1), .int .i64 t.f3, .int .i64 t.f4, .int .i64 t.f5, .int .i64 t.f6, .int .i64 t.f7, .int .i64 t.f8, .int .i64 t.f9, .int .i64 t.f10] 32 (0, 0))).alloc (.cells #[.string t.f0, .int .i64 1048576, .int .i64 t.f2, .int .i64 t.f3, .int .i64 t.f4, .int .i64 t.f5, .int .i64 t.f6, .int .i64 t.f7, .int .i64 t.f8, .int .i64 t.f9, .int .i64 t.f10] 32 (0, 0))).alloc (.cells #[.string t.f0, .int .i64 1048577, .int .i64 t.f2, .int .i64 t.f3, .int .i64 t.f4, .int .i64 t.f5, .int .i64 t.f6, .int .i64 t.f7, .int .i64 t.f8, .int .i64 t.f9, .int .i64 t.f10] 32 (0, 0))).alloc (.cells #[.string t.f0, .int .i64 t.f1, .int .i64 t.f2, .int .i64 t.f3, .int .i64 t.f4, .int .i64 t.f5, .int .i64 t.f6, .int .i64 64, .int .i64 64, .int .i64 t.f9, .int .i64 t.f10] 32 (0, 0))).alloc (.cells #[.string t.f0, .int .i64 t.f1, .int .i64 t.f2, .int .i64 t.f3, .int .i64 t.f4, .int .i64 t.f5, .int .i64 t.f6, .int .i64 64, .int .i64 65, .int .i64 t.f9, .int .i64 t.f10] 32 (0, 0))).alloc (.cells #[.string t.f0, .int .i64 t.f1, .int .i64 t.f2, .int .i64 t.f3, .int .i64 t.f4, .int .i64 t.f5, .int .i64 1000, .int .i64 t.f7, .int .i64 t.f8, .int .i64 t.f9, .int .i64 t.f10] 32 (0, 0))).alloc (.cells #[.string t.f0, .int .i64 t.f1, .int .i64 t.f2, .int .i64 t.f3, .int .i64 t.f4, .int .i64 t.f5, .int .i64 1001, .int .i64 t.f7, .int .i64 t.f8, .int .i64 t.f9, .int .i64 t.f10] 32 (0, 0))).alloc (.cells #[.string t.f0, .int .i64 t.f1, .int .i64 t.f2, .int .i64 t.f3, .int .i64 t.f4, .int .i64 t.f5, .int .i64 t.f6, .int .i64 t.f7, .int .i64 t.f8, .int .i64 t.f9, .int .i64 255] 32 (0, 0))).alloc (.cells #[.string t.f0, .int .i64 t.f1, .int .i64 t.f2, .int .i64 t.f3, .int .i64 t.f4, .int .i64 t.f5, .int .i64 t.f6, .int .i64 t.f7, .int .i64 t.f8, .int .i64 t.f9, .int .i64 256] 32 (0, 0))).heap[wC.heap.size + 1]? = _ from ?_)
        refine blk_alloc ?_ _
        refine blk_alloc ?_ _
        refine blk_alloc ?_ _
        refine blk_alloc ?_ _
        refine blk_alloc ?_ _
        refine blk_alloc ?_ _
        refine blk_alloc ?_ _
        refine blk_alloc ?_ _
        have h := blk_new (wC.alloc (.cells #[.string t.f0, .int .i64 t.f1, .int .i64 t.f2, .int .i64 t.f3, .int .i64 t.f4, .int .i64 t.f5, .int .i64 t.f6, .int .i64 t.f7, .int .i64 t.f8, .int .i64 t.f9, .int .i64 t.f10] 32 (0, 0))) (.cells #[.string t.f0, .int .i64 t.f1, .int .i64 (t.f1 + 1), .int .i64 t.f3, .int .i64 t.f4, .int .i64 t.f5, .int .i64 t.f6, .int .i64 t.f7, .int .i64 t.f8, .int .i64 t.f9, .int .i64 t.f10] 32 (0, 0))
        simpa using h⟩
      have HGb : Aside0 (wz.heap[wC.heap.size + 1 + 1]? = some (.cells #[.string t.f0, .int .i64 1048576, .int .i64 t.f2, .int .i64 t.f3, .int .i64 t.f4, .int .i64 t.f5, .int .i64 t.f6, .int .i64 t.f7, .int .i64 t.f8, .int .i64 t.f9, .int .i64 t.f10] 32 (0, 0))) := ⟨by
        rw [hwz]
        refine (show ((((((((((wC.alloc (.cells #[.string t.f0, .int .i64 t.f1, .int .i64 t.f2, .int .i64 t.f3, .int .i64 t.f4, .int .i64 t.f5, .int .i64 t.f6, .int .i64 t.f7, .int .i64 t.f8, .int .i64 t.f9, .int .i64 t.f10] 32 (0, 0))).alloc (.cells #[.string t.f0, .int .i64 t.f1, .int .i64 (t.f1 + 1), .int .i64 t.f3, .int .i64 t.f4, .int .i64 t.f5, .int .i64 t.f6, .int .i64 t.f7, .int .i64 t.f8, .int .i64 t.f9, .int .i64 t.f10] 32 (0, 0))).alloc (.cells #[.string t.f0, .int .i64 1048576, .int .i64 t.f2, .int .i64 t.f3, .int .i64 t.f4, .int .i64 t.f5, .int .i64 t.f6, .int .i64 t.f7, .int .i64 t.f8, .int .i64 t.f9, .int .i64 t.f10] 32 (0, 0))).alloc (.cells #[.string t.f0, .int .i64 1048577, .int .i64 t.f2, .int .i64 t.f3, .int .i64 t.f4, .int .i64 t.f5, .int .i64 t.f6, .int .i64 t.f7, .int .i64 t.f8, .int .i64 t.f9, .int .i64 t.f10] 32 (0, 0))).alloc (.cells #[.string t.f0, .int .i64 t.f1, .int .i64 t.f2, .int .i64 t.f3, .int .i64 t.f4, .int .i64 t.f5, .int .i64 t.f6, .int .i64 64, .int .i64 64, .int .i64 t.f9, .int .i64 t.f10] 32 (0, 0))).alloc (.cells #[.string t.f0, .int .i64 t.f1, .int .i64 t.f2, .int .i64 t.f3, .int .i64 t.f4, .int .i64 t.f5, .int .i64 t.f6, .int .i64 64, .int .i64 65, .int .i64 t.f9, .int .i64 t.f10] 32 (0, 0))).alloc (.cells #[.string t.f0, .int .i64 t.f1, .int .i64 t.f2, .int .i64 t.f3, .int .i64 t.f4, .int .i64 t.f5, .int .i64 1000, .int .i64 t.f7, .int .i64 t.f8, .int .i64 t.f9, .int .i64 t.f10] 32 (0, 0))).alloc (.cells #[.string t.f0, .int .i64 t.f1, .int .i64 t.f2, .int .i64 t.f3, .int .i64 t.f4, .int .i64 t.f5, .int .i64 1001, .int .i64 t.f7, .int .i64 t.f8, .int .i64 t.f9, .int .i64 t.f10] 32 (0, 0))).alloc (.cells #[.string t.f0, .int .i64 t.f1, .int .i64 t.f2, .int .i64 t.f3, .int .i64 t.f4, .int .i64 t.f5, .int .i64 t.f6, .int .i64 t.f7, .int .i64 t.f8, .int .i64 t.f9, .int .i64 255] 32 (0, 0))).alloc (.cells #[.string t.f0, .int .i64 t.f1, .int .i64 t.f2, .int .i64 t.f3, .int .i64 t.f4, .int .i64 t.f5, .int .i64 t.f6, .int .i64 t.f7, .int .i64 t.f8, .int .i64 t.f9, .int .i64 256] 32 (0, 0))).heap[wC.heap.size + 1 + 1]? = _ from ?_)
        refine blk_alloc ?_ _
        refine blk_alloc ?_ _
        refine blk_alloc ?_ _
        refine blk_alloc ?_ _
        refine blk_alloc ?_ _
        refine blk_alloc ?_ _
        refine blk_alloc ?_ _
        have h := blk_new ((wC.alloc (.cells #[.string t.f0, .int .i64 t.f1, .int .i64 t.f2, .int .i64 t.f3, .int .i64 t.f4, .int .i64 t.f5, .int .i64 t.f6, .int .i64 t.f7, .int .i64 t.f8, .int .i64 t.f9, .int .i64 t.f10] 32 (0, 0))).alloc (.cells #[.string t.f0, .int .i64 t.f1, .int .i64 (t.f1 + 1), .int .i64 t.f3, .int .i64 t.f4, .int .i64 t.f5, .int .i64 t.f6, .int .i64 t.f7, .int .i64 t.f8, .int .i64 t.f9, .int .i64 t.f10] 32 (0, 0))) (.cells #[.string t.f0, .int .i64 1048576, .int .i64 t.f2, .int .i64 t.f3, .int .i64 t.f4, .int .i64 t.f5, .int .i64 t.f6, .int .i64 t.f7, .int .i64 t.f8, .int .i64 t.f9, .int .i64 t.f10] 32 (0, 0))
        simpa using h⟩
      have HGc : Aside0 (wz.heap[wC.heap.size + 1 + 1 + 1]? = some (.cells #[.string t.f0, .int .i64 1048577, .int .i64 t.f2, .int .i64 t.f3, .int .i64 t.f4, .int .i64 t.f5, .int .i64 t.f6, .int .i64 t.f7, .int .i64 t.f8, .int .i64 t.f9, .int .i64 t.f10] 32 (0, 0))) := ⟨by
        rw [hwz]
        refine (show ((((((((((wC.alloc (.cells #[.string t.f0, .int .i64 t.f1, .int .i64 t.f2, .int .i64 t.f3, .int .i64 t.f4, .int .i64 t.f5, .int .i64 t.f6, .int .i64 t.f7, .int .i64 t.f8, .int .i64 t.f9, .int .i64 t.f10] 32 (0, 0))).alloc (.cells #[.string t.f0, .int .i64 t.f1, .int .i64 (t.f1 + 1), .int .i64 t.f3, .int .i64 t.f4, .int .i64 t.f5, .int .i64 t.f6, .int .i64 t.f7, .int .i64 t.f8, .int .i64 t.f9, .int .i64 t.f10] 32 (0, 0))).alloc (.cells #[.string t.f0, .int .i64 1048576, .int .i64 t.f2, .int .i64 t.f3, .int .i64 t.f4, .int .i64 t.f5, .int .i64 t.f6, .int .i64 t.f7, .int .i64 t.f8, .int .i64 t.f9, .int .i64 t.f10] 32 (0, 0))).alloc (.cells #[.string t.f0, .int .i64 1048577, .int .i64 t.f2, .int .i64 t.f3, .int .i64 t.f4, .int .i64 t.f5, .int .i64 t.f6, .int .i64 t.f7, .int .i64 t.f8, .int .i64 t.f9, .int .i64 t.f10] 32 (0, 0))).alloc (.cells #[.string t.f0, .int .i64 t.f1, .int .i64 t.f2, .int .i64 t.f3, .int .i64 t.f4, .int .i64 t.f5, .int .i64 t.f6, .int .i64 64, .int .i64 64, .int .i64 t.f9, .int .i64 t.f10] 32 (0, 0))).alloc (.cells #[.string t.f0, .int .i64 t.f1, .int .i64 t.f2, .int .i64 t.f3, .int .i64 t.f4, .int .i64 t.f5, .int .i64 t.f6, .int .i64 64, .int .i64 65, .int .i64 t.f9, .int .i64 t.f10] 32 (0, 0))).alloc (.cells #[.string t.f0, .int .i64 t.f1, .int .i64 t.f2, .int .i64 t.f3, .int .i64 t.f4, .int .i64 t.f5, .int .i64 1000, .int .i64 t.f7, .int .i64 t.f8, .int .i64 t.f9, .int .i64 t.f10] 32 (0, 0))).alloc (.cells #[.string t.f0, .int .i64 t.f1, .int .i64 t.f2, .int .i64 t.f3, .int .i64 t.f4, .int .i64 t.f5, .int .i64 1001, .int .i64 t.f7, .int .i64 t.f8, .int .i64 t.f9, .int .i64 t.f10] 32 (0, 0))).alloc (.cells #[.string t.f0, .int .i64 t.f1, .int .i64 t.f2, .int .i64 t.f3, .int .i64 t.f4, .int .i64 t.f5, .int .i64 t.f6, .int .i64 t.f7, .int .i64 t.f8, .int .i64 t.f9, .int .i64 255] 32 (0, 0))).alloc (.cells #[.string t.f0, .int .i64 t.f1, .int .i64 t.f2, .int .i64 t.f3, .int .i64 t.f4, .int .i64 t.f5, .int .i64 t.f6, .int .i64 t.f7, .int .i64 t.f8, .int .i64 t.f9, .int .i64 256] 32 (0, 0))).heap[wC.heap.size + 1 + 1 + 1]? = _ from ?_)
        refine blk_alloc ?_ _
        refine blk_alloc ?_ _
        refine blk_alloc ?_ _
        refine blk_alloc ?_ _
        refine blk_alloc ?_ _
        refine blk_alloc ?_ _
        have h := blk_new (((wC.alloc (.cells #[.string t.f0, .int .i64 t.f1, .int .i64 t.f2, .int .i64 t.f3, .int .i64 t.f4, .int .i64 t.f5, .int .i64 t.f6, .int .i64 t.f7, .int .i64 t.f8, .int .i64 t.f9, .int .i64 t.f10] 32 (0, 0))).alloc (.cells #[.string t.f0, .int .i64 t.f1, .int .i64 (t.f1 + 1), .int .i64 t.f3, .int .i64 t.f4, .int .i64 t.f5, .int .i64 t.f6, .int .i64 t.f7, .int .i64 t.f8, .int .i64 t.f9, .int .i64 t.f10] 32 (0, 0))).alloc (.cells #[.string t.f0, .int .i64 1048576, .int .i64 t.f2, .int .i64 t.f3, .int .i64 t.f4, .int .i64 t.f5, .int .i64 t.f6, .int .i64 t.f7, .int .i64 t.f8, .int .i64 t.f9, .int .i64 t.f10] 32 (0, 0))) (.cells #[.string t.f0, .int .i64 1048577, .int .i64 t.f2, .int .i64 t.f3, .int .i64 t.f4, .int .i64 t.f5, .int .i64 t.f6, .int .i64 t.f7, .int .i64 t.f8, .int .i64 t.f9, .int .i64 t.f10] 32 (0, 0))
        simpa using h⟩
      have HGd : Aside0 (wz.heap[wC.heap.size + 1 + 1 + 1 + 1]? = some (.cells #[.string t.f0, .int .i64 t.f1, .int .i64 t.f2, .int .i64 t.f3, .int .i64 t.f4, .int .i64 t.f5, .int .i64 t.f6, .int .i64 64, .int .i64 64, .int .i64 t.f9, .int .i64 t.f10] 32 (0, 0))) := ⟨by
        rw [hwz]
        refine (show ((((((((((wC.alloc (.cells #[.string t.f0, .int .i64 t.f1, .int .i64 t.f2, .int .i64 t.f3, .int .i64 t.f4, .int .i64 t.f5, .int .i64 t.f6, .int .i64 t.f7, .int .i64 t.f8, .int .i64 t.f9, .int .i64 t.f10] 32 (0, 0))).alloc (.cells #[.string t.f0, .int .i64 t.f1, .int .i64 (t.f1 + 1), .int .i64 t.f3, .int .i64 t.f4, .int .i64 t.f5, .int .i64 t.f6, .int .i64 t.f7, .int .i64 t.f8, .int .i64 t.f9, .int .i64 t.f10] 32 (0, 0))).alloc (.cells #[.string t.f0, .int .i64 1048576, .int .i64 t.f2, .int .i64 t.f3, .int .i64 t.f4, .int .i64 t.f5, .int .i64 t.f6, .int .i64 t.f7, .int .i64 t.f8, .int .i64 t.f9, .int .i64 t.f10] 32 (0, 0))).alloc (.cells #[.string t.f0, .int .i64 1048577, .int .i64 t.f2, .int .i64 t.f3, .int .i64 t.f4, .int .i64 t.f5, .int .i64 t.f6, .int .i64 t.f7, .int .i64 t.f8, .int .i64 t.f9, .int .i64 t.f10] 32 (0, 0))).alloc (.cells #[.string t.f0, .int .i64 t.f1, .int .i64 t.f2, .int .i64 t.f3, .int .i64 t.f4, .int .i64 t.f5, .int .i64 t.f6, .int .i64 64, .int .i64 64, .int .i64 t.f9, .int .i64 t.f10] 32 (0, 0))).alloc (.cells #[.string t.f0, .int .i64 t.f1, .int .i64 t.f2, .int .i64 t.f3, .int .i64 t.f4, .int .i64 t.f5, .int .i64 t.f6, .int .i64 64, .int .i64 65, .int .i64 t.f9, .int .i64 t.f10] 32 (0, 0))).alloc (.cells #[.string t.f0, .int .i64 t.f1, .int .i64 t.f2, .int .i64 t.f3, .int .i64 t.f4, .int .i64 t.f5, .int .i64 1000, .int .i64 t.f7, .int .i64 t.f8, .int .i64 t.f9, .int .i64 t.f10] 32 (0, 0))).alloc (.cells #[.string t.f0, .int .i64 t.f1, .int .i64 t.f2, .int .i64 t.f3, .int .i64 t.f4, .int .i64 t.f5, .int .i64 1001, .int .i64 t.f7, .int .i64 t.f8, .int .i64 t.f9, .int .i64 t.f10] 32 (0, 0))).alloc (.cells #[.string t.f0, .int .i64 t.f1, .int .i64 t.f2, .int .i64 t.f3, .int .i64 t.f4, .int .i64 t.f5, .int .i64 t.f6, .int .i64 t.f7, .int .i64 t.f8, .int .i64 t.f9, .int .i64 255] 32 (0, 0))).alloc (.cells #[.string t.f0, .int .i64 t.f1, .int .i64 t.f2, .int .i64 t.f3, .int .i64 t.f4, .int .i64 t.f5, .int .i64 t.f6, .int .i64 t.f7, .int .i64 t.f8, .int .i64 t.f9, .int .i64 256] 32 (0, 0))).heap[wC.heap.size + 1 + 1 + 1 + 1]? = _ from ?_)
        refine blk_alloc ?_ _
        refine blk_alloc ?_ _
        refine blk_alloc ?_ _
        refine blk_alloc ?_ _
        refine blk_alloc ?_ _
        have h := blk_new ((((wC.alloc (.cells #[.string t.f0, .int .i64 t.f1, .int .i64 t.f2, .int .i64 t.f3, .int .i64 t.f4, .int .i64 t.f5, .int .i64 t.f6, .int .i64 t.f7, .int .i64 t.f8, .int .i64 t.f9, .int .i64 t.f10] 32 (0, 0))).alloc (.cells #[.string t.f0, .int .i64 t.f1, .int .i64 (t.f1 + 1), .int .i64 t.f3, .int .i64 t.f4, .int .i64 t.f5, .int .i64 t.f6, .int .i64 t.f7, .int .i64 t.f8, .int .i64 t.f9, .int .i64 t.f10] 32 (0, 0))).alloc (.cells #[.string t.f0, .int .i64 1048576, .int .i64 t.f2, .int .i64 t.f3, .int .i64 t.f4, .int .i64 t.f5, .int .i64 t.f6, .int .i64 t.f7, .int .i64 t.f8, .int .i64 t.f9, .int .i64 t.f10] 32 (0, 0))).alloc (.cells #[.string t.f0, .int .i64 1048577, .int .i64 t.f2, .int .i64 t.f3, .int .i64 t.f4, .int .i64 t.f5, .int .i64 t.f6, .int .i64 t.f7, .int .i64 t.f8, .int .i64 t.f9, .int .i64 t.f10] 32 (0, 0))) (.cells #[.string t.f0, .int .i64 t.f1, .int .i64 t.f2, .int .i64 t.f3, .int .i64 t.f4, .int .i64 t.f5, .int .i64 t.f6, .int .i64 64, .int .i64 64, .int .i64 t.f9, .int .i64 t.f10] 32 (0, 0))
        simpa using h⟩
      have HGe : Aside0 (wz.heap[wC.heap.size + 1 + 1 + 1 + 1 + 1]? = some (.cells #[.string t.f0, .int .i64 t.f1, .int .i64 t.f2, .int .i64 t.f3, .int .i64 t.f4, .int .i64 t.f5, .int .i64 t.f6, .int .i64 64, .int .i64 65, .int .i64 t.f9, .int .i64 t.f10] 32 (0, 0))) := ⟨by
        rw [hwz]
        refine (show ((((((((((wC.alloc (.cells #[.string t.f0, .int .i64 t.f1, .int .i64 t.f2, .int .i64 t.f3, .int .i64 t.f4, .int .i64 t.f5, .int .i64 t.f6, .int .i64 t.f7, .int .i64 t.f8, .int .i64 t.f9, .int .i64 t.f10] 32 (0, 0))).alloc (.cells #[.string t.f0, .int .i64 t.f1, .int .i64 (t.f1 + 1), .int .i64 t.f3, .int .i64 t.f4, .int .i64 t.f5, .int .i64 t.f6, .int .i64 t.f7, .int .i64 t.f8, .int .i64 t.f9, .int .i64 t.f10] 32 (0, 0))).alloc (.cells #[.string t.f0, .int .i64 1048576, .int .i64 t.f2, .int .i64 t.f3, .int .i64 t.f4, .int .i64 t.f5, .int .i64 t.f6, .int .i64 t.f7, .int .i64 t.f8, .int .i64 t.f9, .int .i64 t.f10] 32 (0, 0))).alloc (.cells #[.string t.f0, .int .i64 1048577, .int .i64 t.f2, .int .i64 t.f3, .int .i64 t.f4, .int .i64 t.f5, .int .i64 t.f6, .int .i64 t.f7, .int .i64 t.f8, .int .i64 t.f9, .int .i64 t.f10] 32 (0, 0))).alloc (.cells #[.string t.f0, .int .i64 t.f1, .int .i64 t.f2, .int .i64 t.f3, .int .i64 t.f4, .int .i64 t.f5, .int .i64 t.f6, .int .i64 64, .int .i64 64, .int .i64 t.f9, .int .i64 t.f10] 32 (0, 0))).alloc (.cells #[.string t.f0, .int .i64 t.f1, .int .i64 t.f2, .int .i64 t.f3, .int .i64 t.f4, .int .i64 t.f5, .int .i64 t.f6, .int .i64 64, .int .i64 65, .int .i64 t.f9, .int .i64 t.f10] 32 (0, 0))).alloc (.cells #[.string t.f0, .int .i64 t.f1, .int .i64 t.f2, .int .i64 t.f3, .int .i64 t.f4, .int .i64 t.f5, .int .i64 1000, .int .i64 t.f7, .int .i64 t.f8, .int .i64 t.f9, .int .i64 t.f10] 32 (0, 0))).alloc (.cells #[.string t.f0, .int .i64 t.f1, .int .i64 t.f2, .int .i64 t.f3, .int .i64 t.f4, .int .i64 t.f5, .int .i64 1001, .int .i64 t.f7, .int .i64 t.f8, .int .i64 t.f9, .int .i64 t.f10] 32 (0, 0))).alloc (.cells #[.string t.f0, .int .i64 t.f1, .int .i64 t.f2, .int .i64 t.f3, .int .i64 t.f4, .int .i64 t.f5, .int .i64 t.f6, .int .i64 t.f7, .int .i64 t.f8, .int .i64 t.f9, .int .i64 255] 32 (0, 0))).alloc (.cells #[.string t.f0, .int .i64 t.f1, .int .i64 t.f2, .int .i64 t.f3, .int .i64 t.f4, .int .i64 t.f5, .int .i64 t.f6, .int .i64 t.f7, .int .i64 t.f8, .int .i64 t.f9, .int .i64 256] 32 (0, 0))).heap[wC.heap.size + 1 + 1 + 1 + 1 + 1]? = _ from ?_)
        refine blk_alloc ?_ _
        refine blk_alloc ?_ _
        refine blk_alloc ?_ _
        refine blk_alloc ?_ _
        have h := blk_new (((((wC.alloc (.cells #[.string t.f0, .int .i64 t.f1, .int .i64 t.f2, .int .i64 t.f3, .int .i64 t.f4, .int .i64 t.f5, .int .i64 t.f6, .int .i64 t.f7, .int .i64 t.f8, .int .i64 t.f9, .int .i64 t.f10] 32 (0, 0))).alloc (.cells #[.string t.f0, .int .i64 t.f1, .int .i64 (t.f1 + 1), .int .i64 t.f3, .int .i64 t.f4, .int .i64 t.f5, .int .i64 t.f6, .int .i64 t.f7, .int .i64 t.f8, .int .i64 t.f9, .int .i64 t.f10] 32 (0, 0))).alloc (.cells #[.string t.f0, .int .i64 1048576, .int .i64 t.f2, .int .i64 t.f3, .int .i64 t.f4, .int .i64 t.f5, .int .i64 t.f6, .int .i64 t.f7, .int .i64 t.f8, .int .i64 t.f9, .int .i64 t.f10] 32 (0, 0))).alloc (.cells #[.string t.f0, .int .i64 1048577, .int .i64 t.f2, .int .i64 t.f3, .int .i64 t.f4, .int .i64 t.f5, .int .i64 t.f6, .int .i64 t.f7, .int .i64 t.f8, .int .i64 t.f9, .int .i64 t.f10] 32 (0, 0))).alloc (.cells #[.string t.f0, .int .i64 t.f1, .int .i64 t.f2, .int .i64 t.f3, .int .i64 t.f4, .int .i64 t.f5, .int .i64 t.f6, .int .i64 64, .int .i64 64, .int .i64 t.f9, .int .i64 t.f10] 32 (0, 0))) (.cells #[.string t.f0, .int .i64 t.f1, .int .i64 t.f2, .int .i64 t.f3, .int .i64 t.f4, .int .i64 t.f5, .int .i64 t.f6, .int .i64 64, .int .i64 65, .int .i64 t.f9, .int .i64 t.f10] 32 (0, 0))
        simpa using h⟩
      have HGf : Aside0 (wz.heap[wC.heap.size + 1 + 1 + 1 + 1 + 1 + 1]? = some (.cells #[.string t.f0, .int .i64 t.f1, .int .i64 t.f2, .int .i64 t.f3, .int .i64 t.f4, .int .i64 t.f5, .int .i64 1000, .int .i64 t.f7, .int .i64 t.f8, .int .i64 t.f9, .int .i64 t.f10] 32 (0, 0))) := ⟨by
        rw [hwz]
        refine (show ((((((((((wC.alloc (.cells #[.string t.f0, .int .i64 t.f1, .int .i64 t.f2, .int .i64 t.f3, .int .i64 t.f4, .int .i64 t.f5, .int .i64 t.f6, .int .i64 t.f7, .int .i64 t.f8, .int .i64 t.f9, .int .i64 t.f10] 32 (0, 0))).alloc (.cells #[.string t.f0, .int .i64 t.f1, .int .i64 (t.f1 + 1), .int .i64 t.f3, .int .i64 t.f4, .int .i64 t.f5, .int .i64 t.f6, .int .i64 t.f7, .int .i64 t.f8, .int .i64 t.f9, .int .i64 t.f10] 32 (0, 0))).alloc (.cells #[.string t.f0, .int .i64 1048576, .int .i64 t.f2, .int .i64 t.f3, .int .i64 t.f4, .int .i64 t.f5, .int .i64 t.f6, .int .i64 t.f7, .int .i64 t.f8, .int .i64 t.f9, .int .i64 t.f10] 32 (0, 0))).alloc (.cells #[.string t.f0, .int .i64 1048577, .int .i64 t.f2, .int .i64 t.f3, .int .i64 t.f4, .int .i64 t.f5, .int .i64 t.f6, .int .i64 t.f7, .int .i64 t.f8, .int .i64 t.f9, .int .i64 t.f10] 32 (0, 0))).alloc (.cells #[.string t.f0, .int .i64 t.f1, .int .i64 t.f2, .int .i64 t.f3, .int .i64 t.f4, .int .i64 t.f5, .int .i64 t.f6, .int .i64 64, .int .i64 64, .int .i64 t.f9, .int .i64 t.f10] 32 (0, 0))).alloc (.cells #[.string t.f0, .int .i64 t.f1, .int .i64 t.f2, .int .i64 t.f3, .int .i64 t.f4, .int .i64 t.f5, .int .i64 t.f6, .int .i64 64, .int .i64 65, .int .i64 t.f9, .int .i64 t.f10] 32 (0, 0))).alloc (.cells #[.string t.f0, .int .i64 t.f1, .int .i64 t.f2, .int .i64 t.f3, .int .i64 t.f4, .int .i64 t.f5, .int .i64 1000, .int .i64 t.f7, .int .i64 t.f8, .int .i64 t.f9, .int .i64 t.f10] 32 (0, 0))).alloc (.cells #[.string t.f0, .int .i64 t.f1, .int .i64 t.f2, .int .i64 t.f3, .int .i64 t.f4, .int .i64 t.f5, .int .i64 1001, .int .i64 t.f7, .int .i64 t.f8, .int .i64 t.f9, .int .i64 t.f10] 32 (0, 0))).alloc (.cells #[.string t.f0, .int .i64 t.f1, .int .i64 t.f2, .int .i64 t.f3, .int .i64 t.f4, .int .i64 t.f5, .int .i64 t.f6, .int .i64 t.f7, .int .i64 t.f8, .int .i64 t.f9, .int .i64 255] 32 (0, 0))).alloc (.cells #[.string t.f0, .int .i64 t.f1, .int .i64 t.f2, .int .i64 t.f3, .int .i64 t.f4, .int .i64 t.f5, .int .i64 t.f6, .int .i64 t.f7, .int .i64 t.f8, .int .i64 t.f9, .int .i64 256] 32 (0, 0))).heap[wC.heap.size + 1 + 1 + 1 + 1 + 1 + 1]? = _ from ?_)
        refine blk_alloc ?_ _
        refine blk_alloc ?_ _
        refine blk_alloc ?_ _
        have h := blk_new ((((((wC.alloc (.cells #[.string t.f0, .int .i64 t.f1, .int .i64 t.f2, .int .i64 t.f3, .int .i64 t.f4, .int .i64 t.f5, .int .i64 t.f6, .int .i64 t.f7, .int .i64 t.f8, .int .i64 t.f9, .int .i64 t.f10] 32 (0, 0))).alloc (.cells #[.string t.f0, .int .i64 t.f1, .int .i64 (t.f1 + 1), .int .i64 t.f3, .int .i64 t.f4, .int .i64 t.f5, .int .i64 t.f6, .int .i64 t.f7, .int .i64 t.f8, .int .i64 t.f9, .int .i64 t.f10] 32 (0, 0))).alloc (.cells #[.string t.f0, .int .i64 1048576, .int .i64 t.f2, .int .i64 t.f3, .int .i64 t.f4, .int .i64 t.f5, .int .i64 t.f6, .int .i64 t.f7, .int .i64 t.f8, .int .i64 t.f9, .int .i64 t.f10] 32 (0, 0))).alloc (.cells #[.string t.f0, .int .i64 1048577, .int .i64 t.f2, .int .i64 t.f3, .int .i64 t.f4, .int .i64 t.f5, .int .i64 t.f6, .int .i64 t.f7, .int .i64 t.f8, .int .i64 t.f9, .int .i64 t.f10] 32 (0, 0))).alloc (.cells #[.string t.f0, .int .i64 t.f1, .int .i64 t.f2, .int .i64 t.f3, .int .i64 t.f4, .int .i64 t.f5, .int .i64 t.f6, .int .i64 64, .int .i64 64, .int .i64 t.f9, .int .i64 t.f10] 32 (0, 0))).alloc (.cells #[.string t.f0, .int .i64 t.f1, .int .i64 t.f2, .int .i64 t.f3, .int .i64 t.f4, .int .i64 t.f5, .int .i64 t.f6, .int .i64 64, .int .i64 65, .int .i64 t.f9, .int .i64 t.f10] 32 (0, 0))) (.cells #[.string t.f0, .int .i64 t.f1, .int .i64 t.f2, .int .i64 t.f3, .int .i64 t.f4, .int .i64 t.f5, .int .i64 1000, .int .i64 t.f7, .int .i64 t.f8, .int .i64 t.f9, .int .i64 t.f10] 32 (0, 0))
        simpa using h⟩
      have HGg : Aside0 (wz.heap[wC.heap.size + 1 + 1 + 1 + 1 + 1 + 1 + 1]? = some (.cells #[.string t.f0, .int .i64 t.f1, .int .i64 t.f2, .int .i64 t.f3, .int .i64 t.f4, .int .i64 t.f5, .int .i64 1001, .int .i64 t.f7, .int .i64 t.f8, .int .i64 t.f9, .int .i64 t.f10] 32 (0, 0))) := ⟨by
        rw [hwz]
        refine (show ((((((((((wC.alloc (.cells #[.string t.f0, .int .i64 t.f1, .int .i64 t.f2, .int .i64 t.f3, .int .i64 t.f4, .int .i64 t.f5, .int .i64 t.f6, .int .i64 t.f7, .int .i64 t.f8, .int .i64 t.f9, .int .i64 t.f10] 32 (0, 0))).alloc (.cells #[.string t.f0, .int .i64 t.f1, .int .i64 (t.f1 + 1), .int .i64 t.f3, .int .i64 t.f4, .int .i64 t.f5, .int .i64 t.f6, .int .i64 t.f7, .int .i64 t.f8, .int .i64 t.f9, .int .i64 t.f10] 32 (0, 0))).alloc (.cells #[.string t.f0, .int .i64 1048576, .int .i64 t.f2, .int .i64 t.f3, .int .i64 t.f4, .int .i64 t.f5, .int .i64 t.f6, .int .i64 t.f7, .int .i64 t.f8, .int .i64 t.f9, .int .i64 t.f10] 32 (0, 0))).alloc (.cells #[.string t.f0, .int .i64 1048577, .int .i64 t.f2, .int .i64 t.f3, .int .i64 t.f4, .int .i64 t.f5, .int .i64 t.f6, .int .i64 t.f7, .int .i64 t.f8, .int .i64 t.f9, .int .i64 t.f10] 32 (0, 0))).alloc (.cells #[.string t.f0, .int .i64 t.f1, .int .i64 t.f2, .int .i64 t.f3, .int .i64 t.f4, .int .i64 t.f5, .int .i64 t.f6, .int .i64 64, .int .i64 64, .int .i64 t.f9, .int .i64 t.f10] 32 (0, 0))).alloc (.cells #[.string t.f0, .int .i64 t.f1, .int .i64 t.f2, .int .i64 t.f3, .int .i64 t.f4, .int .i64 t.f5, .int .i64 t.f6, .int .i64 64, .int .i64 65, .int .i64 t.f9, .int .i64 t.f10] 32 (0, 0))).alloc (.cells #[.string t.f0, .int .i64 t.f1, .int .i64 t.f2, .int .i64 t.f3, .int .i64 t.f4, .int .i64 t.f5, .int .i64 1000, .int .i64 t.f7, .int .i64 t.f8, .int .i64 t.f9, .int .i64 t.f10] 32 (0, 0))).alloc (.cells #[.string t.f0, .int .i64 t.f1, .int .i64 t.f2, .int .i64 t.f3, .int .i64 t.f4, .int .i64 t.f5, .int .i64 1001, .int .i64 t.f7, .int .i64 t.f8, .int .i64 t.f9, .int .i64 t.f10] 32 (0, 0))).alloc (.cells #[.string t.f0, .int .i64 t.f1, .int .i64 t.f2, .int .i64 t.f3, .int .i64 t.f4, .int .i64 t.f5, .int .i64 t.f6, .int .i64 t.f7, .int .i64 t.f8, .int .i64 t.f9, .int .i64 255] 32 (0, 0))).alloc (.cells #[.string t.f0, .int .i64 t.f1, .int .i64 t.f2, .int .i64 t.f3, .int .i64 t.f4, .int .i64 t.f5, .int .i64 t.f6, .int .i64 t.f7, .int .i64 t.f8, .int .i64 t.f9, .int .i64 256] 32 (0, 0))).heap[wC.heap.size + 1 + 1 + 1 + 1 + 1 + 1 + 1]? = _ from ?_)
        refine blk_alloc ?_ _
        refine blk_alloc ?_ _
        have h := blk_new (((((((wC.alloc (.cells #[.string t.f0, .int .i64 t.f1, .int .i64 t.f2, .int .i64 t.f3, .int .i64 t.f4, .int .i64 t.f5, .int .i64 t.f6, .int .i64 t.f7, .int .i64 t.f8, .int .i64 t.f9, .int .i64 t.f10] 32 (0, 0))).alloc (.cells #[.string t.f0, .int .i64 t.f1, .int .i64 (t.f1 + 1), .int .i64 t.f3, .int .i64 t.f4, .int .i64 t.f5, .int .i64 t.f6, .int .i64 t.f7, .int .i64 t.f8, .int .i64 t.f9, .int .i64 t.f10] 32 (0, 0))).alloc (.cells #[.string t.f0, .int .i64 1048576, .int .i64 t.f2, .int .i64 t.f3, .int .i64 t.f4, .int .i64 t.f5, .int .i64 t.f6, .int .i64 t.f7, .int .i64 t.f8, .int .i64 t.f9, .int .i64 t.f10] 32 (0, 0))).alloc (.cells #[.string t.f0, .int .i64 1048577, .int .i64 t.f2, .int .i64 t.f3, .int .i64 t.f4, .int .i64 t.f5, .int .i64 t.f6, .int .i64 t.f7, .int .i64 t.f8, .int .i64 t.f9, .int .i64 t.f10] 32 (0, 0))).alloc (.cells #[.string t.f0, .int .i64 t.f1, .int .i64 t.f2, .int .i64 t.f3, .int .i64 t.f4, .int .i64 t.f5, .int .i64 t.f6, .int .i64 64, .int .i64 64, .int .i64 t.f9, .int .i64 t.f10] 32 (0, 0))).alloc (.cells #[.string t.f0, .int .i64 t.f1, .int .i64 t.f2, .int .i64 t.f3, .int .i64 t.f4, .int .i64 t.f5, .int .i64 t.f6, .int .i64 64, .int .i64 65, .int .i64 t.f9, .int .i64 t.f10] 32 (0, 0))).alloc (.cells #[.string t.f0, .int .i64 t.f1, .int .i64 t.f2, .int .i64 t.f3, .int .i64 t.f4, .int .i64 t.f5, .int .i64 1000, .int .i64 t.f7, .int .i64 t.f8, .int .i64 t.f9, .int .i64 t.f10] 32 (0, 0))) (.cells #[.string t.f0, .int .i64 t.f1, .int .i64 t.f2, .int .i64 t.f3, .int .i64 t.f4, .int .i64 t.f5, .int .i64 1001, .int .i64 t.f7, .int .i64 t.f8, .int .i64 t.f9, .int .i64 t.f10] 32 (0, 0))
        simpa using h⟩
      have HGh : Aside0 (wz.heap[wC.heap.size + 1 + 1 + 1 + 1 + 1 + 1 + 1 + 1]? = some (.cells #[.string t.f0, .int .i64 t.f1, .int .i64 t.f2, .int .i64 t.f3, .int .i64 t.f4, .int .i64 t.f5, .int .i64 t.f6, .int .i64 t.f7, .int .i64 t.f8, .int .i64 t.f9, .int .i64 255] 32 (0, 0))) := ⟨by
        rw [hwz]
        refine (show ((((((((((wC.alloc (.cells #[.string t.f0, .int .i64 t.f1, .int .i64 t.f2, .int .i64 t.f3, .int .i64 t.f4, .int .i64 t.f5, .int .i64 t.f6, .int .i64 t.f7, .int .i64 t.f8, .int .i64 t.f9, .int .i64 t.f10] 32 (0, 0))).alloc (.cells #[.string t.f0, .int .i64 t.f1, .int .i64 (t.f1 + 1), .int .i64 t.f3, .int .i64 t.f4, .int .i64 t.f5, .int .i64 t.f6, .int .i64 t.f7, .int .i64 t.f8, .int .i64 t.f9, .int .i64 t.f10] 32 (0, 0))).alloc (.cells #[.string t.f0, .int .i64 1048576, .int .i64 t.f2, .int .i64 t.f3, .int .i64 t.f4, .int .i64 t.f5, .int .i64 t.f6, .int .i64 t.f7, .int .i64 t.f8, .int .i64 t.f9, .int .i64 t.f10] 32 (0, 0))).alloc (.cells #[.string t.f0, .int .i64 1048577, .int .i64 t.f2, .int .i64 t.f3, .int .i64 t.f4, .int .i64 t.f5, .int .i64 t.f6, .int .i64 t.f7, .int .i64 t.f8, .int .i64 t.f9, .int .i64 t.f10] 32 (0, 0))).alloc (.cells #[.string t.f0, .int .i64 t.f1, .int .i64 t.f2, .int .i64 t.f3, .int .i64 t.f4, .int .i64 t.f5, .int .i64 t.f6, .int .i64 64, .int .i64 64, .int .i64 t.f9, .int .i64 t.f10] 32 (0, 0))).alloc (.cells #[.string t.f0, .int .i64 t.f1, .int .i64 t.f2, .int .i64 t.f3, .int .i64 t.f4, .int .i64 t.f5, .int .i64 t.f6, .int .i64 64, .int .i64 65, .int .i64 t.f9, .int .i64 t.f10] 32 (0, 0))).alloc (.cells #[.string t.f0, .int .i64 t.f1, .int .i64 t.f2, .int .i64 t.f3, .int .i64 t.f4, .int .i64 t.f5, .int .i64 1000, .int .i64 t.f7, .int .i64 t.f8, .int .i64 t.f9, .int .i64 t.f10] 32 (0, 0))).alloc (.cells #[.string t.f0, .int .i64 t.f1, .int .i64 t.f2, .int .i64 t.f3, .int .i64 t.f4, .int .i64 t.f5, .int .i64 1001, .int .i64 t.f7, .int .i64 t.f8, .int .i64 t.f9, .int .i64 t.f10] 32 (0, 0))).alloc (.cells #[.string t.f0, .int .i64 t.f1, .int .i64 t.f2, .int .i64 t.f3, .int .i64 t.f4, .int .i64 t.f5, .int .i64 t.f6, .int .i64 t.f7, .int .i64 t.f8, .int .i64 t.f9, .int .i64 255] 32 (0, 0))).alloc (.cells #[.string t.f0, .int .i64 t.f1, .int .i64 t.f2, .int .i64 t.f3, .int .i64 t.f4, .int .i64 t.f5, .int .i64 t.f6, .int .i64 t.f7, .int .i64 t.f8, .int .i64 t.f9, .int .i64 256] 32 (0, 0))).heap[wC.heap.size + 1 + 1 + 1 + 1 + 1 + 1 + 1 + 1]? = _ from ?_)
        refine blk_alloc ?_ _
        have h := blk_new ((((((((wC.alloc (.cells #[.string t.f0, .int .i64 t.f1, .int .i64 t.f2, .int .i64 t.f3, .int .i64 t.f4, .int .i64 t.f5, .int .i64 t.f6, .int .i64 t.f7, .int .i64 t.f8, .int .i64 t.f9, .int .i64 t.f10] 32 (0, 0))).alloc (.cells #[.string t.f0, .int .i64 t.f1, .int .i64 (t.f1 + 1), .int .i64 t.f3, .int .i64 t.f4, .int .i64 t.f5, .int .i64 t.f6, .int .i64 t.f7, .int .i64 t.f8, .int .i64 t.f9, .int .i64 t.f10] 32 (0, 0))).alloc (.cells #[.string t.f0, .int .i64 1048576, .int .i64 t.f2, .int .i64 t.f3, .int .i64 t.f4, .int .i64 t.f5, .int .i64 t.f6, .int .i64 t.f7, .int .i64 t.f8, .int .i64 t.f9, .int .i64 t.f10] 32 (0, 0))).alloc (.cells #[.string t.f0, .int .i64 1048577, .int .i64 t.f2, .int .i64 t.f3, .int .i64 t.f4, .int .i64 t.f5, .int .i64 t.f6, .int .i64 t.f7, .int .i64 t.f8, .int .i64 t.f9, .int .i64 t.f10] 32 (0, 0))).alloc (.cells #[.string t.f0, .int .i64 t.f1, .int .i64 t.f2, .int .i64 t.f3, .int .i64 t.f4, .int .i64 t.f5, .int .i64 t.f6, .int .i64 64, .int .i64 64, .int .i64 t.f9, .int .i64 t.f10] 32 (0, 0))).alloc (.cells #[.string t.f0, .int .i64 t.f1, .int .i64 t.f2, .int .i64 t.f3, .int .i64 t.f4, .int .i64 t.f5, .int .i64 t.f6, .int .i64 64, .int .i64 65, .int .i64 t.f9, .int .i64 t.f10] 32 (0, 0))).alloc (.cells #[.string t.f0, .int .i64 t.f1, .int .i64 t.f2, .int .i64 t.f3, .int .i64 t.f4, .int .i64 t.f5, .int .i64 1000, .int .i64 t.f7, .int .i64 t.f8, .int .i64 t.f9, .int .i64 t.f10] 32 (0, 0))).alloc (.cells #[.string t.f0, .int .i64 t.f1, .int .i64 t.f2, .int .i64 t.f3, .int .i64 t.f4, .int .i64 t.f5, .int .i64 1001, .int .i64 t.f7, .int .i64 t.f8, .int .i64 t.f9, .int .i64 t.f10] 32 (0, 0))) (.cells #[.string t.f0, .int .i64 t.f1, .int .i64 t.f2, .int .i64 t.f3, .int .i64 t.f4, .int .i64 t.f5, .int .i64 t.f6, .int .i64 t.f7, .int .i64 t.f8, .int .i64 t.f9, .int .i64 255] 32 (0, 0))
        simpa using h⟩
      have HGk : Aside0 (wz.heap[wC.heap.size + 1 + 1 + 1 + 1 + 1 + 1 + 1 + 1 + 1]? = some (.cells #[.string t.f0, .int .i64 t.f1, .int .i64 t.f2, .int .i64 t.f3, .int .i64 t.f4, .int .i64 t.f5, .int .i64 t.f6, .int .i64 t.f7, .int .i64 t.f8, .int .i64 t.f9, .int .i64 256] 32 (0, 0))) := ⟨by
        rw [hwz]
        refine (show ((((((((((wC.alloc (.cells #[.string t.f0, .int .i64 t.f1, .int .i64 t.f2, .int .i64 t.f3, .int .i64 t.f4, .int .i64 t.f5, .int .i64 t.f6, .int .i64 t.f7, .int .i64 t.f8, .int .i64 t.f9, .int .i64 t.f10] 32 (0, 0))).alloc (.cells #[.string t.f0, .int .i64 t.f1, .int .i64 (t.f1 + 1), .int .i64 t.f3, .int .i64 t.f4, .int .i64 t.f5, .int .i64 t.f6, .int .i64 t.f7, .int .i64 t.f8, .int .i64 t.f9, .int .i64 t.f10] 32 (0, 0))).alloc (.cells #[.string t.f0, .int .i64 1048576, .int .i64 t.f2, .int .i64 t.f3, .int .i64 t.f4, .int .i64 t.f5, .int .i64 t.f6, .int .i64 t.f7, .int .i64 t.f8, .int .i64 t.f9, .int .i64 t.f10] 32 (0, 0))).alloc (.cells #[.string t.f0, .int .i64 1048577, .int .i64 t.f2, .int .i64 t.f3, .int .i64 t.f4, .int .i64 t.f5, .int .i64 t.f6, .int .i64 t.f7, .int .i64 t.f8, .int .i64 t.f9, .int .i64 t.f10] 32 (0, 0))).alloc (.cells #[.string t.f0, .int .i64 t.f1, .int .i64 t.f2, .int .i64 t.f3, .int .i64 t.f4, .int .i64 t.f5, .int .i64 t.f6, .int .i64 64, .int .i64 64, .int .i64 t.f9, .int .i64 t.f10] 32 (0, 0))).alloc (.cells #[.string t.f0, .int .i64 t.f1, .int .i64 t.f2, .int .i64 t.f3, .int .i64 t.f4, .int .i64 t.f5, .int .i64 t.f6, .int .i64 64, .int .i64 65, .int .i64 t.f9, .int .i64 t.f10] 32 (0, 0))).alloc (.cells #[.string t.f0, .int .i64 t.f1, .int .i64 t.f2, .int .i64 t.f3, .int .i64 t.f4, .int .i64 t.f5, .int .i64 1000, .int .i64 t.f7, .int .i64 t.f8, .int .i64 t.f9, .int .i64 t.f10] 32 (0, 0))).alloc (.cells #[.string t.f0, .int .i64 t.f1, .int .i64 t.f2, .int .i64 t.f3, .int .i64 t.f4, .int .i64 t.f5, .int .i64 1001, .int .i64 t.f7, .int .i64 t.f8, .int .i64 t.f9, .int .i64 t.f10] 32 (0, 0))).alloc (.cells #[.string t.f0, .int .i64 t.f1, .int .i64 t.f2, .int .i64 t.f3, .int .i64 t.f4, .int .i64 t.f5, .int .i64 t.f6, .int .i64 t.f7, .int .i64 t.f8, .int .i64 t.f9, .int .i64 255] 32 (0, 0))).alloc (.cells #[.string t.f0, .int .i64 t.f1, .int .i64 t.f2, .int .i64 t.f3, .int .i64 t.f4, .int .i64 t.f5, .int .i64 t.f6, .int .i64 t.f7, .int .i64 t.f8, .int .i64 t.f9, .int .i64 256] 32 (0, 0))).heap[wC.heap.size + 1 + 1 + 1 + 1 + 1 + 1 + 1 + 1 + 1]? = _ from ?_)
        have h := blk_new (((((((((wC.alloc (.cells #[.string t.f0, .int .i64 t.f1, .int .i64 t.f2, .int .i64 t.f3, .int .i64 t.f4, .int .i64 t.f5, .int .i64 t.f6, .int .i64 t.f7, .int .i64 t.f8, .int .i64 t.f9, .int .i64 t.f10] 32 (0, 0))).alloc (.cells #[.string t.f0, .int .i64 t.f1, .int .i64 (t.f1 + 1), .int .i64 t.f3, .int .i64 t.f4, .int .i64 t.f5, .int .i64 t.f6, .int .i64 t.f7, .int .i64 t.f8, .int .i64 t.f9, .int .i64 t.f10] 32 (0, 0))).alloc (.cells #[.string t.f0, .int .i64 1048576, .int .i64 t.f2, .int .i64 t.f3, .int .i64 t.f4, .int .i64 t.f5, .int .i64 t.f6, .int .i64 t.f7, .int .i64 t.f8, .int .i64 t.f9, .int .i64 t.f10] 32 (0, 0))).alloc (.cells #[.string t.f0, .int .i64 1048577, .int .i64 t.f2, .int .i64 t.f3, .int .i64 t.f4, .int .i64 t.f5, .int .i64 t.f6, .int .i64 t.f7, .int .i64 t.f8, .int .i64 t.f9, .int .i64 t.f10] 32 (0, 0))).alloc (.cells #[.string t.f0, .int .i64 t.f1, .int .i64 t.f2, .int .i64 t.f3, .int .i64 t.f4, .int .i64 t.f5, .int .i64 t.f6, .int .i64 64, .int .i64 64, .int .i64 t.f9, .int .i64 t.f10] 32 (0, 0))).alloc (.cells #[.string t.f0, .int .i64 t.f1, .int .i64 t.f2, .int .i64 t.f3, .int .i64 t.f4, .int .i64 t.f5, .int .i64 t.f6, .int .i64 64, .int .i64 65, .int .i64 t.f9, .int .i64 t.f10] 32 (0, 0))).alloc (.cells #[.string t.f0, .int .i64 t.f1, .int .i64 t.f2, .int .i64 t.f3, .int .i64 t.f4, .int .i64 t.f5, .int .i64 1000, .int .i64 t.f7, .int .i64 t.f8, .int .i64 t.f9, .int .i64 t.f10] 32 (0, 0))).alloc (.cells #[.string t.f0, .int .i64 t.f1, .int .i64 t.f2, .int .i64 t.f3, .int .i64 t.f4, .int .i64 t.f5, .int .i64 1001, .int .i64 t.f7, .int .i64 t.f8, .int .i64 t.f9, .int .i64 t.f10] 32 (0, 0))).alloc (.cells #[.string t.f0, .int .i64 t.f1, .int .i64 t.f2, .int .i64 t.f3, .int .i64 t.f4, .int .i64 t.f5, .int .i64 t.f6, .int .i64 t.f7, .int .i64 t.f8, .int .i64 t.f9, .int .i64 255] 32 (0, 0))) (.cells #[.string t.f0, .int .i64 t.f1, .int .i64 t.f2, .int .i64 t.f3, .int .i64 t.f4, .int .i64 t.f5, .int .i64 t.f6, .int .i64 t.f7, .int .i64 t.f8, .int .i64 t.f9, .int .i64 256] 32 (0, 0))
        simpa using h⟩
      have HBZ : Aside0 (Below W.heap.size W wz) := ⟨by rw [hwz]; exact below_drew (below_alloc (below_alloc (below_alloc (below_alloc (below_alloc (below_alloc (below_alloc (below_alloc (below_alloc (below_alloc HB.out _) _) _) _) _) _) _) _) _) _)⟩
      rw [← hwz]
      have HZ : Aside0 (Below wz.heap.size wz wz) := ⟨Below.refl _ _⟩
      clear hwz HB HK s0 s1 sA x0 xA0 x1 xA1 x2 xA2 x3 xA3 x4 xA4 x5 xA5 x6 xA6 x7 xA7 x8 xA8 x9 xA9 x10 xA10
      refine (edge_one (⟨t.f0, t.f1, t.f1 + 1, t.f3, t.f4, t.f5, t.f6, t.f7, t.f8, t.f9, t.f10⟩ : TK) _).mono ?_
      rintro e wa ⟨rfl, hb⟩
      rw [HVa.out]
      have HZ1 := Aside0.mk (below_step HZ.out hb)
      clear HZ hb
      have HZ := HZ1
      clear HZ1
      have z0 : wa.cell? ⟨wC.heap.size + 1 + 1, 0, none⟩ = some (.string t.f0) := blk_cell (blk_below HGb.out HZ.out) 0
      have z1 : wa.cell? ⟨wC.heap.size + 1 + 1, 1, none⟩ = some (.int .i64 (1048576)) := blk_cell (blk_below HGb.out HZ.out) 1
      have z2 : wa.cell? ⟨wC.heap.size + 1 + 1, 2, none⟩ = some (.int .i64 (t.f2)) := blk_cell (blk_below HGb.out HZ.out) 2
      have z3 : wa.cell? ⟨wC.heap.size + 1 + 1, 3, none⟩ = some (.int .i64 (t.f3)) := blk_cell (blk_below HGb.out HZ.out) 3
      have z4 : wa.cell? ⟨wC.heap.size + 1 + 1, 4, none⟩ = some (.int .i64 (t.f4)) := blk_cell (blk_below HGb.out HZ.out) 4
      have z5 : wa.cell? ⟨wC.heap.size + 1 + 1, 5, none⟩ = some (.int .i64 (t.f5)) := blk_cell (blk_below HGb.out HZ.out) 5
      have z6 : wa.cell? ⟨wC.heap.size + 1 + 1, 6, none⟩ = some (.int .i64 (t.f6)) := blk_cell (blk_below HGb.out HZ.out) 6
      have z7 : wa.cell? ⟨wC.heap.size + 1 + 1, 7, none⟩ = some (.int .i64 (t.f7)) := blk_cell (blk_below HGb.out HZ.out) 7
      have z8 : wa.cell? ⟨wC.heap.size + 1 + 1, 8, none⟩ = some (.int .i64 (t.f8)) := blk_cell (blk_below HGb.out HZ.out) 8
      have z9 : wa.cell? ⟨wC.heap.size + 1 + 1, 9, none⟩ = some (.int .i64 (t.f9)) := blk_cell (blk_below HGb.out HZ.out) 9
      have z10 : wa.cell? ⟨wC.heap.size + 1 + 1, 10, none⟩ = some (.int .i64 (t.f10)) := blk_cell (blk_below HGb.out HZ.out) 10
      go_wp2_with fail
      clear z0 z1 z2 z3 z4 z5 z6 z7 z8 z9 z10
      refine (edge_one (⟨t.f0, 1048576, t.f2, t.f3, t.f4, t.f5, t.f6, t.f7, t.f8, t.f9, t.f10⟩ : TK) _).mono ?_
      rintro e wb ⟨rfl, hb⟩
      rw [HVb.out]
      have HZ1 := Aside0.mk (below_step HZ.out hb)
      clear HZ hb
      have HZ := HZ1
      clear HZ1
      have z0 : wb.cell? ⟨wC.heap.size + 1 + 1 + 1, 0, none⟩ = some (.string t.f0) := blk_cell (blk_below HGc.out HZ.out) 0
      have z1 : wb.cell? ⟨wC.heap.size + 1 + 1 + 1, 1, none⟩ = some (.int .i64 (1048577)) := blk_cell (blk_below HGc.out HZ.out) 1
      have z2 : wb.cell? ⟨wC.heap.size + 1 + 1 + 1, 2, none⟩ = some (.int .i64 (t.f2)) := blk_cell (blk_below HGc.out HZ.out) 2
      have z3 : wb.cell? ⟨wC.heap.size + 1 + 1 + 1, 3, none⟩ = some (.int .i64 (t.f3)) := blk_cell (blk_below HGc.out HZ.out) 3
      have z4 : wb.cell? ⟨wC.heap.size + 1 + 1 + 1, 4, none⟩ = some (.int .i64 (t.f4)) := blk_cell (blk_below HGc.out HZ.out) 4
      have z5 : wb.cell? ⟨wC.heap.size + 1 + 1 + 1, 5, none⟩ = some (.int .i64 (t.f5)) := blk_cell (blk_below HGc.out HZ.out) 5
      have z6 : wb.cell? ⟨wC.heap.size + 1 + 1 + 1, 6, none⟩ = some (.int .i64 (t.f6)) := blk_cell (blk_below HGc.out HZ.out) 6
      have z7 : wb.cell? ⟨wC.heap.size + 1 + 1 + 1, 7, none⟩ = some (.int .i64 (t.f7)) := blk_cell (blk_below HGc.out HZ.out) 7
      have z8 : wb.cell? ⟨wC.heap.size + 1 + 1 + 1, 8, none⟩ = some (.int .i64 (t.f8)) := blk_cell (blk_below HGc.out HZ.out) 8
      have z9 : wb.cell? ⟨wC.heap.size + 1 + 1 + 1, 9, none⟩ = some (.int .i64 (t.f9)) := blk_cell (blk_below HGc.out HZ.out) 9
      have z10 : wb.cell? ⟨wC.heap.size + 1 + 1 + 1, 10, none⟩ = some (.int .i64 (t.f10)) := blk_cell (blk_below HGc.out HZ.out) 10
      go_wp2_with fail
      clear z0 z1 z2 z3 z4 z5 z6 z7 z8 z9 z10
      refine (edge_one (⟨t.f0, 1048577, t.f2, t.f3, t.f4, t.f5, t.f6, t.f7, t.f8, t.f9, t.f10⟩ : TK) _).mono ?_
      rintro e wc ⟨rfl, hb⟩
      rw [HVc.out]
      have HZ1 := Aside0.mk (below_step HZ.out hb)
      clear HZ hb
      have HZ := HZ1
      clear HZ1
      have z0 : wc.cell? ⟨wC.heap.size + 1 + 1 + 1 + 1, 0, none⟩ = some (.string t.f0) := blk_cell (blk_below HGd.out HZ.out) 0
      have z1 : wc.cell? ⟨wC.heap.size + 1 + 1 + 1 + 1, 1, none⟩ = some (.int .i64 (t.f1)) := blk_cell (blk_below HGd.out HZ.out) 1
      have z2 : wc.cell? ⟨wC.heap.size + 1 + 1 + 1 + 1, 2, none⟩ = some (.int .i64 (t.f2)) := blk_cell (blk_below HGd.out HZ.out) 2
      have z3 : wc.cell? ⟨wC.heap.size + 1 + 1 + 1 + 1, 3, none⟩ = some (.int .i64 (t.f3)) := blk_cell (blk_below HGd.out HZ.out) 3
      have z4 : wc.cell? ⟨wC.heap.size + 1 + 1 + 1 + 1, 4, none⟩ = some (.int .i64 (t.f4)) := blk_cell (blk_below HGd.out HZ.out) 4
      have z5 : wc.cell? ⟨wC.heap.size + 1 + 1 + 1 + 1, 5, none⟩ = some (.int .i64 (t.f5)) := blk_cell (blk_below HGd.out HZ.out) 5
      have z6 : wc.cell? ⟨wC.heap.size + 1 + 1 + 1 + 1, 6, none⟩ = some (.int .i64 (t.f6)) := blk_cell (blk_below HGd.out HZ.out) 6
      have z7 : wc.cell? ⟨wC.heap.size + 1 + 1 + 1 + 1, 7, none⟩ = some (.int .i64 (64)) := blk_cell (blk_below HGd.out HZ.out) 7
      have z8 : wc.cell? ⟨wC.heap.size + 1 + 1 + 1 + 1, 8, none⟩ = some (.int .i64 (64)) := blk_cell (blk_below HGd.out HZ.out) 8
      have z9 : wc.cell? ⟨wC.heap.size + 1 + 1 + 1 + 1, 9, none⟩ = some (.int .i64 (t.f9)) := blk_cell (blk_below HGd.out HZ.out) 9
      have z10 : wc.cell? ⟨wC.heap.size + 1 + 1 + 1 + 1, 10, none⟩ = some (.int .i64 (t.f10)) := blk_cell (blk_below HGd.out HZ.out) 10
      go_wp2_with fail
      clear z0 z1 z2 z3 z4 z5 z6 z7 z8 z9 z10
      refine (edge_one (⟨t.f0, t.f1, t.f2, t.f3, t.f4, t.f5, t.f6, 64, 64, t.f9, t.f10⟩ : TK) _).mono ?_
      rintro e wd ⟨rfl, hb⟩
      rw [HVd.out]
      have HZ1 := Aside0.mk (below_step HZ.out hb)
      clear HZ hb
      have HZ := HZ1
      clear HZ1
      have z0 : wd.cell? ⟨wC.heap.size + 1 + 1 + 1 + 1 + 1, 0, none⟩ = some (.string t.f0) := blk_cell (blk_below HGe.out HZ.out) 0
      have z1 : wd.cell? ⟨wC.heap.size + 1 + 1 + 1 + 1 + 1, 1, none⟩ = some (.int .i64 (t.f1)) := blk_cell (blk_below HGe.out HZ.out) 1
      have z2 : wd.cell? ⟨wC.heap.size + 1 + 1 + 1 + 1 + 1, 2, none⟩ = some (.int .i64 (t.f2)) := blk_cell (blk_below HGe.out HZ.out) 2
      have z3 : wd.cell? ⟨wC.heap.size + 1 + 1 + 1 + 1 + 1, 3, none⟩ = some (.int .i64 (t.f3)) := blk_cell (blk_below HGe.out HZ.out) 3
      have z4 : wd.cell? ⟨wC.heap.size + 1 + 1 + 1 + 1 + 1, 4, none⟩ = some (.int .i64 (t.f4)) := blk_cell (blk_below HGe.out HZ.out) 4
      have z5 : wd.cell? ⟨wC.heap.size + 1 + 1 + 1 + 1 + 1, 5, none⟩ = some (.int .i64 (t.f5)) := blk_cell (blk_below HGe.out HZ.out) 5
      have z6 : wd.cell? ⟨wC.heap.size + 1 + 1 + 1 + 1 + 1, 6, none⟩ = some (.int .i64 (t.f6)) := blk_cell (blk_below HGe.out HZ.out) 6
      have z7 : wd.cell? ⟨wC.heap.size + 1 + 1 + 1 + 1 + 1, 7, none⟩ = some (.int .i64 (64)) := blk_cell (blk_below HGe.out HZ.out) 7
      have z8 : wd.cell? ⟨wC.heap.size + 1 + 1 + 1 + 1 + 1, 8, none⟩ = some (.int .i64 (65)) := blk_cell (blk_below HGe.out HZ.out) 8
      have z9 : wd.cell? ⟨wC.heap.size + 1 + 1 + 1 + 1 + 1, 9, none⟩ = some (.int .i64 (t.f9)) := blk_cell (blk_below HGe.out HZ.out) 9
      have z10 : wd.cell? ⟨wC.heap.size + 1 + 1 + 1 + 1 + 1, 10, none⟩ = some (.int .i64 (t.f10)) := blk_cell (blk_below HGe.out HZ.out) 10
      go_wp2_with fail
      clear z0 z1 z2 z3 z4 z5 z6 z7 z8 z9 z10
      refine (edge_one (⟨t.f0, t.f1, t.f2, t.f3, t.f4, t.f5, t.f6, 64, 65, t.f9, t.f10⟩ : TK) _).mono ?_
      rintro e we ⟨rfl, hb⟩
      rw [HVe.out]
      have HZ1 := Aside0.mk (below_step HZ.out hb)
      clear HZ hb
      have HZ := HZ1
      clear HZ1
      have z0 : we.cell? ⟨wC.heap.size + 1 + 1 + 1 + 1 + 1 + 1, 0, none⟩ = some (.string t.f0) := blk_cell (blk_below HGf.out HZ.out) 0
      have z1 : we.cell? ⟨wC.heap.size + 1 + 1 + 1 + 1 + 1 + 1, 1, none⟩ = some (.int .i64 (t.f1)) := blk_cell (blk_below HGf.out HZ.out) 1
      have z2 : we.cell? ⟨wC.heap.size + 1 + 1 + 1 + 1 + 1 + 1, 2, none⟩ = some (.int .i64 (t.f2)) := blk_cell (blk_below HGf.out HZ.out) 2
      have z3 : we.cell? ⟨wC.heap.size + 1 + 1 + 1 + 1 + 1 + 1, 3, none⟩ = some (.int .i64 (t.f3)) := blk_cell (blk_below HGf.out HZ.out) 3
      have z4 : we.cell? ⟨wC.heap.size + 1 + 1 + 1 + 1 + 1 + 1, 4, none⟩ = some (.int .i64 (t.f4)) := blk_cell (blk_below HGf.out HZ.out) 4
      have z5 : we.cell? ⟨wC.heap.size + 1 + 1 + 1 + 1 + 1 + 1, 5, none⟩ = some (.int .i64 (t.f5)) := blk_cell (blk_below HGf.out HZ.out) 5
      have z6 : we.cell? ⟨wC.heap.size + 1 + 1 + 1 + 1 + 1 + 1, 6, none⟩ = some (.int .i64 (1000)) := blk_cell (blk_below HGf.out HZ.out) 6
      have z7 : we.cell? ⟨wC.heap.size + 1 + 1 + 1 + 1 + 1 + 1, 7, none⟩ = some (.int .i64 (t.f7)) := blk_cell (blk_below HGf.out HZ.out) 7
      have z8 : we.cell? ⟨wC.heap.size + 1 + 1 + 1 + 1 + 1 + 1, 8, none⟩ = some (.int .i64 (t.f8)) := blk_cell (blk_below HGf.out HZ.out) 8
      have z9 : we.cell? ⟨wC.heap.size + 1 + 1 + 1 + 1 + 1 + 1, 9, none⟩ = some (.int .i64 (t.f9)) := blk_cell (blk_below HGf.out HZ.out) 9
      have z10 : we.cell? ⟨wC.heap.size + 1 + 1 + 1 + 1 + 1 + 1, 10, none⟩ = some (.int .i64 (t.f10)) := blk_cell (blk_below HGf.out HZ.out) 10
      go_wp2_with fail
      clear z0 z1 z2 z3 z4 z5 z6 z7 z8 z9 z10
      refine (edge_one (⟨t.f0, t.f1, t.f2, t.f3, t.f4, t.f5, 1000, t.f7, t.f8, t.f9, t.f10⟩ : TK) _).mono ?_
      rintro e wf ⟨rfl, hb⟩
      rw [HVf.out]
      have HZ1 := Aside0.mk (below_step HZ.out hb)
      clear HZ hb
      have HZ := HZ1
      clear HZ1
      have z0 : wf.cell? ⟨wC.heap.size + 1 + 1 + 1 + 1 + 1 + 1 + 1, 0, none⟩ = some (.string t.f0) := blk_cell (blk_below HGg.out HZ.out) 0
      have z1 : wf.cell? ⟨wC.heap.size + 1 + 1 + 1 + 1 + 1 + 1 + 1, 1, none⟩ = some (.int .i64 (t.f1)) := blk_cell (blk_below HGg.out HZ.out) 1
      have z2 : wf.cell? ⟨wC.heap.size + 1 + 1 + 1 + 1 + 1 + 1 + 1, 2, none⟩ = some (.int .i64 (t.f2)) := blk_cell (blk_below HGg.out HZ.out) 2
      have z3 : wf.cell? ⟨wC.heap.size + 1 + 1 + 1 + 1 + 1 + 1 + 1, 3, none⟩ = some (.int .i64 (t.f3)) := blk_cell (blk_below HGg.out HZ.out) 3
      have z4 : wf.cell? ⟨wC.heap.size + 1 + 1 + 1 + 1 + 1 + 1 + 1, 4, none⟩ = some (.int .i64 (t.f4)) := blk_cell (blk_below HGg.out HZ.out) 4
      have z5 : wf.cell? ⟨wC.heap.size + 1 + 1 + 1 + 1 + 1 + 1 + 1, 5, none⟩ = some (.int .i64 (t.f5)) := blk_cell (blk_below HGg.out HZ.out) 5
      have z6 : wf.cell? ⟨wC.heap.size + 1 + 1 + 1 + 1 + 1 + 1 + 1, 6, none⟩ = some (.int .i64 (1001)) := blk_cell (blk_below HGg.out HZ.out) 6
      have z7 : wf.cell? ⟨wC.heap.size + 1 + 1 + 1 + 1 + 1 + 1 + 1, 7, none⟩ = some (.int .i64 (t.f7)) := blk_cell (blk_below HGg.out HZ.out) 7
      have z8 : wf.cell? ⟨wC.heap.size + 1 + 1 + 1 + 1 + 1 + 1 + 1, 8, none⟩ = some (.int .i64 (t.f8)) := blk_cell (blk_below HGg.out HZ.out) 8
      have z9 : wf.cell? ⟨wC.heap.size + 1 + 1 + 1 + 1 + 1 + 1 + 1, 9, none⟩ = some (.int .i64 (t.f9)) := blk_cell (blk_below HGg.out HZ.out) 9
      have z10 : wf.cell? ⟨wC.heap.size + 1 + 1 + 1 + 1 + 1 + 1 + 1, 10, none⟩ = some (.int .i64 (t.f10)) := blk_cell (blk_below HGg.out HZ.out) 10
      go_wp2_with fail
      clear z0 z1 z2 z3 z4 z5 z6 z7 z8 z9 z10
      refine (edge_one (⟨t.f0, t.f1, t.f2, t.f3, t.f4, t.f5, 1001, t.f7, t.f8, t.f9, t.f10⟩ : TK) _).mono ?_
      rintro e wg ⟨rfl, hb⟩
      rw [HVg.out]
      have HZ1 := Aside0.mk (below_step HZ.out hb)
      clear HZ hb
      have HZ := HZ1
      clear HZ1
      have z0 : wg.cell? ⟨wC.heap.size + 1 + 1 + 1 + 1 + 1 + 1 + 1 + 1, 0, none⟩ = some (.string t.f0) := blk_cell (blk_below HGh.out HZ.out) 0
      have z1 : wg.cell? ⟨wC.heap.size + 1 + 1 + 1 + 1 + 1 + 1 + 1 + 1, 1, none⟩ = some (.int .i64 (t.f1)) := blk_cell (blk_below HGh.out HZ.out) 1
      have z2 : wg.cell? ⟨wC.heap.size + 1 + 1 + 1 + 1 + 1 + 1 + 1 + 1, 2, none⟩ = some (.int .i64 (t.f2)) := blk_cell (blk_below HGh.out HZ.out) 2
      have z3 : wg.cell? ⟨wC.heap.size + 1 + 1 + 1 + 1 + 1 + 1 + 1 + 1, 3, none⟩ = some (.int .i64 (t.f3)) := blk_cell (blk_below HGh.out HZ.out) 3
      have z4 : wg.cell? ⟨wC.heap.size + 1 + 1 + 1 + 1 + 1 + 1 + 1 + 1, 4, none⟩ = some (.int .i64 (t.f4)) := blk_cell (blk_below HGh.out HZ.out) 4
      have z5 : wg.cell? ⟨wC.heap.size + 1 + 1 + 1 + 1 + 1 + 1 + 1 + 1, 5, none⟩ = some (.int .i64 (t.f5)) := blk_cell (blk_below HGh.out HZ.out) 5
      have z6 : wg.cell? ⟨wC.heap.size + 1 + 1 + 1 + 1 + 1 + 1 + 1 + 1, 6, none⟩ = some (.int .i64 (t.f6)) := blk_cell (blk_below HGh.out HZ.out) 6
      have z7 : wg.cell? ⟨wC.heap.size + 1 + 1 + 1 + 1 + 1 + 1 + 1 + 1, 7, none⟩ = some (.int .i64 (t.f7)) := blk_cell (blk_below HGh.out HZ.out) 7
      have z8 : wg.cell? ⟨wC.heap.size + 1 + 1 + 1 + 1 + 1 + 1 + 1 + 1, 8, none⟩ = some (.int .i64 (t.f8)) := blk_cell (blk_below HGh.out HZ.out) 8
      have z9 : wg.cell? ⟨wC.heap.size + 1 + 1 + 1 + 1 + 1 + 1 + 1 + 1, 9, none⟩ = some (.int .i64 (t.f9)) := blk_cell (blk_below HGh.out HZ.out) 9
      have z10 : wg.cell? ⟨wC.heap.size + 1 + 1 + 1 + 1 + 1 + 1 + 1 + 1, 10, none⟩ = some (.int .i64 (255)) := blk_cell (blk_below HGh.out HZ.out) 10
      go_wp2_with fail
      clear z0 z1 z2 z3 z4 z5 z6 z7 z8 z9 z10
      refine (edge_one (⟨t.f0, t.f1, t.f2, t.f3, t.f4, t.f5, t.f6, t.f7, t.f8, t.f9, 255⟩ : TK) _).mono ?_
      rintro e wh ⟨rfl, hb⟩
      rw [HVh.out]
      have HZ1 := Aside0.mk (below_step HZ.out hb)
      clear HZ hb
      have HZ := HZ1
      clear HZ1
      have z0 : wh.cell? ⟨wC.heap.size + 1 + 1 + 1 + 1 + 1 + 1 + 1 + 1 + 1, 0, none⟩ = some (.string t.f0) := blk_cell (blk_below HGk.out HZ.out) 0
      have z1 : wh.cell? ⟨wC.heap.size + 1 + 1 + 1 + 1 + 1 + 1 + 1 + 1 + 1, 1, none⟩ = some (.int .i64 (t.f1)) := blk_cell (blk_below HGk.out HZ.out) 1
      have z2 : wh.cell? ⟨wC.heap.size + 1 + 1 + 1 + 1 + 1 + 1 + 1 + 1 + 1, 2, none⟩ = some (.int .i64 (t.f2)) := blk_cell (blk_below HGk.out HZ.out) 2
      have z3 : wh.cell? ⟨wC.heap.size + 1 + 1 + 1 + 1 + 1 + 1 + 1 + 1 + 1, 3, none⟩ = some (.int .i64 (t.f3)) := blk_cell (blk_below HGk.out HZ.out) 3
      have z4 : wh.cell? ⟨wC.heap.size + 1 + 1 + 1 + 1 + 1 + 1 + 1 + 1 + 1, 4, none⟩ = some (.int .i64 (t.f4)) := blk_cell (blk_below HGk.out HZ.out) 4
      have z5 : wh.cell? ⟨wC.heap.size + 1 + 1 + 1 + 1 + 1 + 1 + 1 + 1 + 1, 5, none⟩ = some (.int .i64 (t.f5)) := blk_cell (blk_below HGk.out HZ.out) 5
      have z6 : wh.cell? ⟨wC.heap.size + 1 + 1 + 1 + 1 + 1 + 1 + 1 + 1 + 1, 6, none⟩ = some (.int .i64 (t.f6)) := blk_cell (blk_below HGk.out HZ.out) 6
      have z7 : wh.cell? ⟨wC.heap.size + 1 + 1 + 1 + 1 + 1 + 1 + 1 + 1 + 1, 7, none⟩ = some (.int .i64 (t.f7)) := blk_cell (blk_below HGk.out HZ.out) 7
      have z8 : wh.cell? ⟨wC.heap.size + 1 + 1 + 1 + 1 + 1 + 1 + 1 + 1 + 1, 8, none⟩ = some (.int .i64 (t.f8)) := blk_cell (blk_below HGk.out HZ.out) 8
      have z9 : wh.cell? ⟨wC.heap.size + 1 + 1 + 1 + 1 + 1 + 1 + 1 + 1 + 1, 9, none⟩ = some (.int .i64 (t.f9)) := blk_cell (blk_below HGk.out HZ.out) 9
      have z10 : wh.cell? ⟨wC.heap.size + 1 + 1 + 1 + 1 + 1 + 1 + 1 + 1 + 1, 10, none⟩ = some (.int .i64 (256)) := blk_cell (blk_below HGk.out HZ.out) 10
      go_wp2_with fail
      clear z0 z1 z2 z3 z4 z5 z6 z7 z8 z9 z10
      refine (edge_one (⟨t.f0, t.f1, t.f2, t.f3, t.f4, t.f5, t.f6, t.f7, t.f8, t.f9, 256⟩ : TK) _).mono ?_
      rintro e wk ⟨rfl, hb⟩
      rw [HVk.out]
      have HZ1 := Aside0.mk (below_step HZ.out hb)
      clear HZ hb
      have HZ := HZ1
      clear HZ1
      go_wp2_with fail
      go_ret
      exact ⟨rfl, below_step HBZ.out HZ.out⟩
end Go.Proofs.YtphppahjkcnjlaaDoor.Q
