-- TaskAlone: walked by hand (printed by wip/gen05.py).
-- NEEDS pendulum/pendulumref05.Few pendulum/pendulumlaw05.awake pendulum/pendulumref05.Right pendulum/task.Right pendulum/task.Hard pendulum/task.Why
import Derived.Test.YtphppahjkcnjlaaDoorQ0
import Derived.Test.YtphppahjkcnjlaaDoorLlawA
import Derived.Test.YtphppahjkcnjlaaDoorLrow
import Derived.Test.YtphppahjkcnjlaaDoorLright
import Derived.Test.YtphppahjkcnjlaaDoorHtaskP
import Derived.IntWalk
import Derived.Test.YtphppahjkcnjlaaDoorLlit
import Derived.Test.YtphppahjkcnjlaaDoorLregL
namespace Go.Proofs.YtphppahjkcnjlaaDoor.Q
open Go.RowKit Go.Proofs.YtphppahjkcnjlaaDoorW.PrintWords Go.Proofs.YtphppahjkcnjlaaDoorW.PrintLast Go.Proofs.YtphppahjkcnjlaaDoorW.PrintMore
attribute [local go_sem] max2_int min2_int max_two min_two max_three min_three max_four min_four   -- for this text's walks alone
set_option linter.unusedVariables false
set_option linter.unusedSimpArgs false
theorem why_two {t s : TK} {n : Int} (ht : RightT t) (h : whyT s [t] = n) (hn : n ≠ 0) : whyS 5 [t, s] = (n, 1) := by
  have h0 : whyT t [] = 0 := rightT_iff.2 ⟨ht, fun x hx => (by cases hx), fun x hx => (by cases hx)⟩
  unfold whyS
  rw [if_neg (by decide), if_neg (by show ¬ inB ((2 : Nat) : Int) 1 16 = false; decide), whyFrom, if_pos h0, whyFrom]
  show (if whyT s [t] = 0 then _ else (whyT s [t], (0 : Int) + 1)) = _
  rw [h, if_neg hn]; rfl
theorem right_two {t s : TK} (ht : RightT t) (hs : RightT s) (h1 : t.f0 ≠ s.f0) (h2 : t.f10 ≠ s.f10) : whyS 5 [t, s] = (0, -1) := by
  refine RightS.why (RightS.mk' (by decide) (by decide) (by simp) (by simp) (fun x hx => ?_) (fun i j hi hj hij => ?_))
  · simp at hx; rcases hx with rfl | rfl
    · exact ht
    · exact hs
  · simp at hi hj
    obtain ⟨rfl, rfl⟩ : i = 0 ∧ j = 1 := by omega
    exact ⟨h1, h2⟩
theorem right_1000 {t : TK} (ht : RightT t) : ((whyS 1000 [t]).1 == 0) = true := by
  have : whyS 1000 [t] = (0, -1) := RightS.why (RightS.mk' (by decide) (by decide) (by simp) (by simp) (fun x hx => by simp at hx; subst hx; exact ht) (fun i j hi hj hij => by simp at hi hj; omega))
  rw [this]; rfl
theorem named_zzz : named ⟨#[122, 122, 122]⟩ = true := by decide
set_option maxHeartbeats 4000000 in
set_option maxRecDepth 100000 in
theorem TaskAlone_law (b : Int) (A : Option Addr) (c : Nat) (ts : List TK) (a : Int) (W : World) (hC : Kd.C k32 W A ts.length ts) (hc : ts.length ≤ c) (hokt : ∀ t ∈ ts, okTask t) (hbw : (Lit.int .i64 b).wf = true) (ha : (Lit.int .u8 a).wf = true) :
    Calls Tryd.prog 6 #[.agg #[.int .i64 b, .slice A ts.length c], .int .u8 a] W fun e w' => e = .returned (.bool true) ∧ Below W.heap.size W w' := by
  have HC := Aside0.mk hC
  have HOK := Aside0.mk hokt
  obtain ⟨W1, hW1⟩ : ∃ W1, W1 = W.alloc (.cells #[.int .i64 b, .slice A ts.length c] 24 (0, 0)) := ⟨_, rfl⟩
  have HB : Aside0 (Below W.heap.size W W1) := ⟨by rw [hW1]; exact below_alloc (Below.refl _ _) _⟩
  obtain ⟨gs, hgs⟩ : ∃ gs, W.heap.size = gs := ⟨_, rfl⟩
  have HK : Aside0 (W1.heap[gs]? = some (.cells #[.int .i64 b, .slice A ts.length c] 24 (0, 0))) := ⟨by rw [hW1, ← hgs]; exact blk_new W _⟩
  have HW1 := Aside0.mk hW1
  have HGS := Aside0.mk hgs
  clear hC hokt hbw hW1
  obtain ⟨fb, hfb⟩ : ∃ fb, fewB ts = fb := ⟨_, rfl⟩
  have HFB := Aside0.mk hfb
  obtain ⟨rb, hrb⟩ : ∃ rb, ((whyS b ts).1 == 0) = rb := ⟨_, rfl⟩
  have HRB := Aside0.mk hrb
  clear hfb hrb
  go_enter Tryd.func6, Tryd.ntmps6
  go_wp2_with fail
  rw [← HW1.out]
  try rw [hgs]
  clear hgs
  refine (pendulumlaw05_awake.calls true _ law05_awake).mono ?_
  rintro e wA ⟨rfl, hb⟩
  have HB1 := Aside0.mk (below_step HB.out hb); have HK1 := Aside0.mk (blk_below HK.out hb); clear HB HK hb; have HB := HB1; have HK := HK1; clear HB1 HK1
  have s0 := blk_cell HK.out 0
  have s1 := blk_cell HK.out 1
  go_wp2_with fail
  refine (pendulumref05_Few.calls 100 b A c ts fb _ (Kd.C_below HC.out HB.out) hc (by rw [few_eq b ts 100 (by omega), HFB.out])).mono ?_
  rintro e wB ⟨rfl, hb⟩
  have HB1 := Aside0.mk (below_step HB.out hb); have HK1 := Aside0.mk (blk_below HK.out hb); clear HB HK hb; have HB := HB1; have HK := HK1; clear HB1 HK1
  clear s0 s1
  cases fb with
  | false =>
    go_wp2_with fail
    refine (pendulumlaw05_awake.calls true _ law05_awake).mono ?_
    rintro e wC ⟨rfl, hb⟩
    have HB1 := Aside0.mk (below_step HB.out hb); have HK1 := Aside0.mk (blk_below HK.out hb); clear HB HK hb; have HB := HB1; have HK := HK1; clear HB1 HK1
    go_wp2_with fail
    go_ret
    exact ⟨rfl, HB.out⟩
  | true =>
    have s0 := blk_cell HK.out 0
    have s1 := blk_cell HK.out 1
    go_wp2_with fail
    refine (pendulumref05_Right.calls b A c ts rb _ (Kd.C_below HC.out HB.out) hc (by rw [right_eq, HRB.out])).mono ?_
    rintro e wC ⟨rfl, hb⟩
    have HB1 := Aside0.mk (below_step HB.out hb); have HK1 := Aside0.mk (blk_below HK.out hb); clear HB HK hb; have HB := HB1; have HK := HK1; clear HB1 HK1
    clear s0 s1
    cases rb with
    | false =>
      go_wp2_with fail
      refine (pendulumlaw05_awake.calls true _ law05_awake).mono ?_
      rintro e wD ⟨rfl, hb⟩
      have HB1 := Aside0.mk (below_step HB.out hb); have HK1 := Aside0.mk (blk_below HK.out hb); clear HB HK hb; have HB := HB1; have HK := HK1; clear HB1 HK1
      go_wp2_with fail
      go_ret
      exact ⟨rfl, HB.out⟩
    | true =>
      have hR : RightS b ts := (rightS_iff b ts).1 (by have := HRB.out; simpa using this)
      have HR := Aside0.mk hR
      have hl1 := hR.n0
      have hl16 := hR.n1
      clear hR
      have ha2 := Go.bounds_u8 ha
      have s0 := blk_cell HK.out 0
      have s1 := blk_cell HK.out 1
      have t0 := Int.tmod_nonneg (ts.length : Int) (show 0 ≤ a by omega)
      have t1 := Int.tmod_lt_of_pos a (show 0 < (ts.length : Int) by omega)
      have tz : ((ts.length : Int) == 0) = false := beq_eq_false_iff_ne.2 (by omega)
      obtain ⟨m, hm⟩ : ∃ m, Int.tmod a (ts.length : Int) = m := ⟨_, rfl⟩
      rw [hm] at t0 t1
      obtain ⟨n, rfl⟩ : ∃ n : Nat, m = (n : Int) := ⟨m.toNat, by omega⟩
      obtain ⟨ad, e, x0, x1, x2, x3, x4, x5, x6, x7, x8, x9, x10⟩ := at_T32 (Kd.C_below HC.out HB.out) (n : Int) (by omega) t1
      cases e
      obtain ⟨t, ht⟩ : ∃ t, rd_T32 ts (n : Int) = t := ⟨_, rfl⟩
      rw [ht] at x0 x1 x2 x3 x4 x5 x6 x7 x8 x9 x10
      have hnl : n < ts.length := by omega
      have htm : t ∈ ts := by rw [← ht]; simp [rd_T32, List.getD_eq_getElem?_getD, List.getElem?_eq_getElem hnl]
      have HT := Aside0.mk (HR.out.task htm)
      simp only [Int.toNat_natCast] at x0 x1 x2 x3 x4 x5 x6 x7 x8 x9 x10
      have hw1 : IntKind.i64.wrap (t.f1 + 1) = t.f1 + 1 := by have := HT.out.timed; exact IntWalk.i64_in _ (by omega)
      have hne : ¬ ts = [] := fun e => by rw [e] at hnl; simp at hnl
      have sA : ∀ o, (wC.alloc o).cell? ⟨gs, 1, none⟩ = some (.slice (some ad) ts.length c) := fun o => blk_cell (blk_alloc HK.out o) 1
      have xA0 : ∀ o, (wC.alloc o).cell? (ad.add (n * 11)) = some (.string t.f0) := fun o => pw_cell_below (below_alloc (Below.refl _ _) o) x0
      have xA1 : ∀ o, (wC.alloc o).cell? ⟨(ad.add (n * 11)).block, (ad.add (n * 11)).off + 1, none⟩ = some (.int .i64 t.f1) := fun o => pw_cell_below (below_alloc (Below.refl _ _) o) x1
      have xA2 : ∀ o, (wC.alloc o).cell? ⟨(ad.add (n * 11)).block, (ad.add (n * 11)).off + 2, none⟩ = some (.int .i64 t.f2) := fun o => pw_cell_below (below_alloc (Below.refl _ _) o) x2
      have xA3 : ∀ o, (wC.alloc o).cell? ⟨(ad.add (n * 11)).block, (ad.add (n * 11)).off + 3, none⟩ = some (.int .i64 t.f3) := fun o => pw_cell_below (below_alloc (Below.refl _ _) o) x3
      have xA4 : ∀ o, (wC.alloc o).cell? ⟨(ad.add (n * 11)).block, (ad.add (n * 11)).off + 4, none⟩ = some (.int .i64 t.f4) := fun o => pw_cell_below (below_alloc (Below.refl _ _) o) x4
      have xA5 : ∀ o, (wC.alloc o).cell? ⟨(ad.add (n * 11)).block, (ad.add (n * 11)).off + 5, none⟩ = some (.int .i64 t.f5) := fun o => pw_cell_below (below_alloc (Below.refl _ _) o) x5
      have xA6 : ∀ o, (wC.alloc o).cell? ⟨(ad.add (n * 11)).block, (ad.add (n * 11)).off + 6, none⟩ = some (.int .i64 t.f6) := fun o => pw_cell_below (below_alloc (Below.refl _ _) o) x6
      have xA7 : ∀ o, (wC.alloc o).cell? ⟨(ad.add (n * 11)).block, (ad.add (n * 11)).off + 7, none⟩ = some (.int .i64 t.f7) := fun o => pw_cell_below (below_alloc (Below.refl _ _) o) x7
      have xA8 : ∀ o, (wC.alloc o).cell? ⟨(ad.add (n * 11)).block, (ad.add (n * 11)).off + 8, none⟩ = some (.int .i64 t.f8) := fun o => pw_cell_below (below_alloc (Below.refl _ _) o) x8
      have xA9 : ∀ o, (wC.alloc o).cell? ⟨(ad.add (n * 11)).block, (ad.add (n * 11)).off + 9, none⟩ = some (.int .i64 t.f9) := fun o => pw_cell_below (below_alloc (Below.refl _ _) o) x9
      have xA10 : ∀ o, (wC.alloc o).cell? ⟨(ad.add (n * 11)).block, (ad.add (n * 11)).off + 10, none⟩ = some (.int .i64 t.f10) := fun o => pw_cell_below (below_alloc (Below.refl _ _) o) x10
      clear ht htm hl1 hl16 ha hnl
      have hp := HT.out.prio
      obtain ⟨hp0, hp1⟩ := hp
      have hw2 : IntKind.i64.wrap (t.f10 + 1) = t.f10 + 1 := IntWalk.i64_in _ (by omega)
      have HRT1 := Aside0.mk (right_1000 HT.out)
      obtain ⟨nz, hnz⟩ : ∃ nz, decide (t.f0.toList = [122, 122, 122]) = nz := ⟨_, rfl⟩
      have htt : (⟨#[122, 122, 122]⟩ : ByteArray).toList = [122, 122, 122] := by rw [Lib.toList_data]
      have HU : Aside0 (whyS 5 [t, (⟨⟨#[122, 122, 122]⟩, t.f1, t.f2, t.f3, t.f4, t.f5, t.f6, t.f7, t.f8, t.f9, t.f10⟩ : TK)] = (if nz = true then 3 else 7, 1)) := ⟨by
        cases nz with
        | true =>
          rw [if_pos rfl]
          refine why_two HT.out (wT3 ?_) (by decide)
          rw [nmB_not]; unfold tNamed
          have h1 : t.f0.toList = [122, 122, 122] := of_decide_eq_true hnz
          simp [h1, htt]
        | false =>
          rw [if_neg (by decide)]
          have h1 : ¬ t.f0.toList = [122, 122, 122] := of_decide_eq_false hnz
          refine why_two HT.out (wT7 ?_ (by have h1 := HT.out.timed; show 1 ≤ t.f3 ∧ t.f3 ≤ t.f2 ∧ t.f2 ≤ t.f1 ∧ t.f1 ≤ 1048576 ∧ 0 ≤ t.f6 ∧ t.f6 ≤ 1000; omega) (md_ok (⟨⟨#[122, 122, 122]⟩, t.f1, t.f2, t.f3, t.f4, t.f5, t.f6, t.f7, t.f8, t.f9, t.f10⟩ : TK) HT.out.modeA.1 HT.out.modeA.2 HT.out.mode1 (fun h => HT.out.mode2 (fun e => by rw [e] at h; exact absurd h (by decide)))) (by have h1 := HT.out.firm; show 1 ≤ t.f7 ∧ t.f7 ≤ t.f8 ∧ t.f8 ≤ 64; omega) ?_) (by decide)
          · rw [nmB_not]; unfold tNamed; rw [named_zzz]; simp [htt, h1]
          · unfold prB; simp⟩
      have HV : Aside0 (whyS 5 [t, (⟨⟨#[122, 122, 122]⟩, t.f1, t.f2, t.f3, t.f4, t.f5, t.f6, t.f7, t.f8, t.f9, (t.f10 + 1) % 256⟩ : TK)] = (if nz = true then (3, 1) else (0, -1))) := ⟨by
        cases nz with
        | true =>
          rw [if_pos rfl]
          refine why_two HT.out (wT3 ?_) (by decide)
          rw [nmB_not]; unfold tNamed
          have h1 : t.f0.toList = [122, 122, 122] := of_decide_eq_true hnz
          simp [h1, htt]
        | false =>
          rw [if_neg (by decide)]
          have h1 : ¬ t.f0.toList = [122, 122, 122] := of_decide_eq_false hnz
          refine right_two HT.out ⟨named_zzz, HT.out.timed, HT.out.modeA, HT.out.mode1, HT.out.mode2, HT.out.firm, by show 0 ≤ (t.f10 + 1) % 256 ∧ (t.f10 + 1) % 256 ≤ 255; omega⟩ (fun e => h1 ?_) (by show t.f10 ≠ (t.f10 + 1) % 256; omega)
          have e : t.f0 = ⟨#[122, 122, 122]⟩ := e
          rw [e, htt]⟩
      have HNZ := Aside0.mk hnz
      clear hnz htt
      cases nz with
      | true =>
        have hz1 : (t.f0.toList == [122, 122, 122]) = true := by have := HNZ.out; simpa using this
        have hz2 : (t.f0.toList != [122, 122, 122]) = false := by rw [bne, hz1]; rfl
        have HU2 : Aside0 (whyS 5 [t, (⟨⟨#[122, 122, 122]⟩, t.f1, t.f2, t.f3, t.f4, t.f5, t.f6, t.f7, t.f8, t.f9, t.f10⟩ : TK)] = (3, 1)) := ⟨HU.out⟩
        have HV2 : Aside0 (whyS 5 [t, (⟨⟨#[122, 122, 122]⟩, t.f1, t.f2, t.f3, t.f4, t.f5, t.f6, t.f7, t.f8, t.f9, (t.f10 + 1) % 256⟩ : TK)] = (3, 1)) := ⟨HV.out⟩
        clear HU HV HNZ
        go_wp2_with fail
        go_region
        go_wp2_with fail
        have HC3 : Aside0 (Kd.C k32 ((((wC.alloc (.cells #[.string t.f0, .int .i64 t.f1, .int .i64 t.f2, .int .i64 t.f3, .int .i64 t.f4, .int .i64 t.f5, .int .i64 t.f6, .int .i64 t.f7, .int .i64 t.f8, .int .i64 t.f9, .int .i64 t.f10] 32 (0, 0))).alloc (.cells #[.string ⟨#[122, 122, 122]⟩, .int .i64 t.f1, .int .i64 t.f2, .int .i64 t.f3, .int .i64 t.f4, .int .i64 t.f5, .int .i64 t.f6, .int .i64 t.f7, .int .i64 t.f8, .int .i64 t.f9, .int .i64 t.f10] 32 (0, 0))).alloc (.cells #[.string ⟨#[122, 122, 122]⟩, .int .i64 t.f1, .int .i64 t.f2, .int .i64 t.f3, .int .i64 t.f4, .int .i64 t.f5, .int .i64 t.f6, .int .i64 t.f7, .int .i64 t.f8, .int .i64 t.f9, .int .i64 ((t.f10 + 1) % 256)] 32 (0, 0))).alloc (.cells #[.string t.f0, .int .i64 t.f1, .int .i64 t.f2, .int .i64 t.f3, .int .i64 t.f4, .int .i64 t.f5, .int .i64 t.f6, .int .i64 t.f7, .int .i64 t.f8, .int .i64 t.f9, .int .i64 t.f10, .string ⟨#[122, 122, 122]⟩, .int .i64 t.f1, .int .i64 t.f2, .int .i64 t.f3, .int .i64 t.f4, .int .i64 t.f5, .int .i64 t.f6, .int .i64 t.f7, .int .i64 t.f8, .int .i64 t.f9, .int .i64 t.f10] 32 (0, 0))).drew (some ⟨wC.heap.size + 1 + 1 + 1, 0, none⟩) 2 [t, (⟨⟨#[122, 122, 122]⟩, t.f1, t.f2, t.f3, t.f4, t.f5, t.f6, t.f7, t.f8, t.f9, t.f10⟩ : TK)]) := ⟨Kd.C_drew (C_litT (((wC.alloc (.cells #[.string t.f0, .int .i64 t.f1, .int .i64 t.f2, .int .i64 t.f3, .int .i64 t.f4, .int .i64 t.f5, .int .i64 t.f6, .int .i64 t.f7, .int .i64 t.f8, .int .i64 t.f9, .int .i64 t.f10] 32 (0, 0))).alloc (.cells #[.string ⟨#[122, 122, 122]⟩, .int .i64 t.f1, .int .i64 t.f2, .int .i64 t.f3, .int .i64 t.f4, .int .i64 t.f5, .int .i64 t.f6, .int .i64 t.f7, .int .i64 t.f8, .int .i64 t.f9, .int .i64 t.f10] 32 (0, 0))).alloc (.cells #[.string ⟨#[122, 122, 122]⟩, .int .i64 t.f1, .int .i64 t.f2, .int .i64 t.f3, .int .i64 t.f4, .int .i64 t.f5, .int .i64 t.f6, .int .i64 t.f7, .int .i64 t.f8, .int .i64 t.f9, .int .i64 ((t.f10 + 1) % 256)] 32 (0, 0))) (wC.heap.size + 1 + 1 + 1) (by simp) [t, (⟨⟨#[122, 122, 122]⟩, t.f1, t.f2, t.f3, t.f4, t.f5, t.f6, t.f7, t.f8, t.f9, t.f10⟩ : TK)] (by simp) _ _ (lit_two t (⟨⟨#[122, 122, 122]⟩, t.f1, t.f2, t.f3, t.f4, t.f5, t.f6, t.f7, t.f8, t.f9, t.f10⟩ : TK)))⟩
        obtain ⟨wz, hwz⟩ : ∃ wz, wz = ((((wC.alloc (.cells #[.string t.f0, .int .i64 t.f1, .int .i64 t.f2, .int .i64 t.f3, .int .i64 t.f4, .int .i64 t.f5, .int .i64 t.f6, .int .i64 t.f7, .int .i64 t.f8, .int .i64 t.f9, .int .i64 t.f10] 32 (0, 0))).alloc (.cells #[.string ⟨#[122, 122, 122]⟩, .int .i64 t.f1, .int .i64 t.f2, .int .i64 t.f3, .int .i64 t.f4, .int .i64 t.f5, .int .i64 t.f6, .int .i64 t.f7, .int .i64 t.f8, .int .i64 t.f9, .int .i64 t.f10] 32 (0, 0))).alloc (.cells #[.string ⟨#[122, 122, 122]⟩, .int .i64 t.f1, .int .i64 t.f2, .int .i64 t.f3, .int .i64 t.f4, .int .i64 t.f5, .int .i64 t.f6, .int .i64 t.f7, .int .i64 t.f8, .int .i64 t.f9, .int .i64 ((t.f10 + 1) % 256)] 32 (0, 0))).alloc (.cells #[.string t.f0, .int .i64 t.f1, .int .i64 t.f2, .int .i64 t.f3, .int .i64 t.f4, .int .i64 t.f5, .int .i64 t.f6, .int .i64 t.f7, .int .i64 t.f8, .int .i64 t.f9, .int .i64 t.f10, .string ⟨#[122, 122, 122]⟩, .int .i64 t.f1, .int .i64 t.f2, .int .i64 t.f3, .int .i64 t.f4, .int .i64 t.f5, .int .i64 t.f6, .int .i64 t.f7, .int .i64 t.f8, .int .i64 t.f9, .int .i64 t.f10] 32 (0, 0))).drew := ⟨_, rfl⟩
        have HGt : Aside0 (wz.heap[wC.heap.size]? = some (.cells #[.string t.f0, .int .i64 t.f1, .int .i64 t.f2, .int .i64 t.f3, .int .i64 t.f4, .int .i64 t.f5, .int .i64 t.f6, .int .i64 t.f7, .int .i64 t.f8, .int .i64 t.f9, .int .i64 t.f10] 32 (0, 0))) := ⟨by
          rw [hwz]
          refine (show ((((wC.alloc (.cells #[.string t.f0, .int .i64 t.f1, .int .i64 t.f2, .int .i64 t.f3, .int .i64 t.f4, .int .i64 t.f5, .int .i64 t.f6, .int .i64 t.f7, .int .i64 t.f8, .int .i64 t.f9, .int .i64 t.f10] 32 (0, 0))).alloc (.cells #[.string ⟨#[122, 122, 122]⟩, .int .i64 t.f1, .int .i64 t.f2, .int .i64 t.f3, .int .i64 t.f4, .int .i64 t.f5, .int .i64 t.f6, .int .i64 t.f7, .int .i64 t.f8, .int .i64 t.f9, .int .i64 t.f10] 32 (0, 0))).alloc (.cells #[.string ⟨#[122, 122, 122]⟩, .int .i64 t.f1, .int .i64 t.f2, .int .i64 t.f3, .int .i64 t.f4, .int .i64 t.f5, .int .i64 t.f6, .int .i64 t.f7, .int .i64 t.f8, .int .i64 t.f9, .int .i64 ((t.f10 + 1) % 256)] 32 (0, 0))).alloc (.cells #[.string t.f0, .int .i64 t.f1, .int .i64 t.f2, .int .i64 t.f3, .int .i64 t.f4, .int .i64 t.f5, .int .i64 t.f6, .int .i64 t.f7, .int .i64 t.f8, .int .i64 t.f9, .int .i64 t.f10, .string ⟨#[122, 122, 122]⟩, .int .i64 t.f1, .int .i64 t.f2, .int .i64 t.f3, .int .i64 t.f4, .int .i64 t.f5, .int .i64 t.f6, .int .i64 t.f7, .int .i64 t.f8, .int .i64 t.f9, .int .i64 t.f10] 32 (0, 0))).heap[wC.heap.size]? = _ from ?_)
          refine blk_alloc ?_ _
          refine blk_alloc ?_ _
          refine blk_alloc ?_ _
          have h := blk_new wC (.cells #[.string t.f0, .int .i64 t.f1, .int .i64 t.f2, .int .i64 t.f3, .int .i64 t.f4, .int .i64 t.f5, .int .i64 t.f6, .int .i64 t.f7, .int .i64 t.f8, .int .i64 t.f9, .int .i64 t.f10] 32 (0, 0))
          simpa using h⟩
        have HGu : Aside0 (wz.heap[wC.heap.size + 1]? = some (.cells #[.string ⟨#[122, 122, 122]⟩, .int .i64 t.f1, .int .i64 t.f2, .int .i64 t.f3, .int .i64 t.f4, .int .i64 t.f5, .int .i64 t.f6, .int .i64 t.f7, .int .i64 t.f8, .int .i64 t.f9, .int .i64 t.f10] 32 (0, 0))) := ⟨by
          rw [hwz]
          refine (show ((((wC.alloc (.cells #[.string t.f0, .int .i64 t.f1, .int .i64 t.f2, .int .i64 t.f3, .int .i64 t.f4, .int .i64 t.f5, .int .i64 t.f6, .int .i64 t.f7, .int .i64 t.f8, .int .i64 t.f9, .int .i64 t.f10] 32 (0, 0))).alloc (.cells #[.string ⟨#[122, 122, 122]⟩, .int .i64 t.f1, .int .i64 t.f2, .int .i64 t.f3, .int .i64 t.f4, .int .i64 t.f5, .int .i64 t.f6, .int .i64 t.f7, .int .i64 t.f8, .int .i64 t.f9, .int .i64 t.f10] 32 (0, 0))).alloc (.cells #[.string ⟨#[122, 122, 122]⟩, .int .i64 t.f1, .int .i64 t.f2, .int .i64 t.f3, .int .i64 t.f4, .int .i64 t.f5, .int .i64 t.f6, .int .i64 t.f7, .int .i64 t.f8, .int .i64 t.f9, .int .i64 ((t.f10 + 1) % 256)] 32 (0, 0))).alloc (.cells #[.string t.f0, .int .i64 t.f1, .int .i64 t.f2, .int .i64 t.f3, .int .i64 t.f4, .int .i64 t.f5, .int .i64 t.f6, .int .i64 t.f7, .int .i64 t.f8, .int .i64 t.f9, .int .i64 t.f10, .string ⟨#[122, 122, 122]⟩, .int .i64 t.f1, .int .i64 t.f2, .int .i64 t.f3, .int .i64 t.f4, .int .i64 t.f5, .int .i64 t.f6, .int .i64 t.f7, .int .i64 t.f8, .int .i64 t.f9, .int .i64 t.f10] 32 (0, 0))).heap[wC.heap.size + 1]? = _ from ?_)
          refine blk_alloc ?_ _
          refine blk_alloc ?_ _
          have h := blk_new (wC.alloc (.cells #[.string t.f0, .int .i64 t.f1, .int .i64 t.f2, .int .i64 t.f3, .int .i64 t.f4, .int .i64 t.f5, .int .i64 t.f6, .int .i64 t.f7, .int .i64 t.f8, .int .i64 t.f9, .int .i64 t.f10] 32 (0, 0))) (.cells #[.string ⟨#[122, 122, 122]⟩, .int .i64 t.f1, .int .i64 t.f2, .int .i64 t.f3, .int .i64 t.f4, .int .i64 t.f5, .int .i64 t.f6, .int .i64 t.f7, .int .i64 t.f8, .int .i64 t.f9, .int .i64 t.f10] 32 (0, 0))
          simpa using h⟩
        have HGv : Aside0 (wz.heap[wC.heap.size + 1 + 1]? = some (.cells #[.string ⟨#[122, 122, 122]⟩, .int .i64 t.f1, .int .i64 t.f2, .int .i64 t.f3, .int .i64 t.f4, .int .i64 t.f5, .int .i64 t.f6, .int .i64 t.f7, .int .i64 t.f8, .int .i64 t.f9, .int .i64 ((t.f10 + 1) % 256)] 32 (0, 0))) := ⟨by
          rw [hwz]
          refine (show ((((wC.alloc (.cells #[.string t.f0, .int .i64 t.f1, .int .i64 t.f2, .int .i64 t.f3, .int .i64 t.f4, .int .i64 t.f5, .int .i64 t.f6, .int .i64 t.f7, .int .i64 t.f8, .int .i64 t.f9, .int .i64 t.f10] 32 (0, 0))).alloc (.cells #[.string ⟨#[122, 122, 122]⟩, .int .i64 t.f1, .int .i64 t.f2, .int .i64 t.f3, .int .i64 t.f4, .int .i64 t.f5, .int .i64 t.f6, .int .i64 t.f7, .int .i64 t.f8, .int .i64 t.f9, .int .i64 t.f10] 32 (0, 0))).alloc (.cells #[.string ⟨#[122, 122, 122]⟩, .int .i64 t.f1, .int .i64 t.f2, .int .i64 t.f3, .int .i64 t.f4, .int .i64 t.f5, .int .i64 t.f6, .int .i64 t.f7, .int .i64 t.f8, .int .i64 t.f9, .int .i64 ((t.f10 + 1) % 256)] 32 (0, 0))).alloc (.cells #[.string t.f0, .int .i64 t.f1, .int .i64 t.f2, .int .i64 t.f3, .int .i64 t.f4, .int .i64 t.f5, .int .i64 t.f6, .int .i64 t.f7, .int .i64 t.f8, .int .i64 t.f9, .int .i64 t.f10, .string ⟨#[122, 122, 122]⟩, .int .i64 t.f1, .int .i64 t.f2, .int .i64 t.f3, .int .i64 t.f4, .int .i64 t.f5, .int .i64 t.f6, .int .i64 t.f7, .int .i64 t.f8, .int .i64 t.f9, .int .i64 t.f10] 32 (0, 0))).heap[wC.heap.size + 1 + 1]? = _ from ?_)
          refine blk_alloc ?_ _
          have h := blk_new ((wC.alloc (.cells #[.string t.f0, .int .i64 t.f1, .int .i64 t.f2, .int .i64 t.f3, .int .i64 t.f4, .int .i64 t.f5, .int .i64 t.f6, .int .i64 t.f7, .int .i64 t.f8, .int .i64 t.f9, .int .i64 t.f10] 32 (0, 0))).alloc (.cells #[.string ⟨#[122, 122, 122]⟩, .int .i64 t.f1, .int .i64 t.f2, .int .i64 t.f3, .int .i64 t.f4, .int .i64 t.f5, .int .i64 t.f6, .int .i64 t.f7, .int .i64 t.f8, .int .i64 t.f9, .int .i64 t.f10] 32 (0, 0))) (.cells #[.string ⟨#[122, 122, 122]⟩, .int .i64 t.f1, .int .i64 t.f2, .int .i64 t.f3, .int .i64 t.f4, .int .i64 t.f5, .int .i64 t.f6, .int .i64 t.f7, .int .i64 t.f8, .int .i64 t.f9, .int .i64 ((t.f10 + 1) % 256)] 32 (0, 0))
          simpa using h⟩
        have HBZ : Aside0 (Below W.heap.size W wz) := ⟨by rw [hwz]; exact below_drew (below_alloc (below_alloc (below_alloc (below_alloc HB.out _) _) _) _)⟩
        rw [← hwz] at HC3
        rw [← hwz]
        clear hwz HB HK s0 s1 sA x0 xA0 x1 xA1 x2 xA2 x3 xA3 x4 xA4 x5 xA5 x6 xA6 x7 xA7 x8 xA8 x9 xA9 x10 xA10
        refine (why_ask 5 (some ⟨wC.heap.size + 1 + 1 + 1, 0, none⟩) 2 [t, (⟨⟨#[122, 122, 122]⟩, t.f1, t.f2, t.f3, t.f4, t.f5, t.f6, t.f7, t.f8, t.f9, t.f10⟩ : TK)] _ HC3.out (Nat.le_refl _)).mono ?_
        rintro e wD ⟨rfl, hb⟩
        rw [HU2.out]
        have HZ := Aside0.mk hb
        clear hb HC3
        have zt0 : wD.cell? ⟨wC.heap.size, 0, none⟩ = some (.string t.f0) := blk_cell (blk_below HGt.out HZ.out) 0
        have zt1 : wD.cell? ⟨wC.heap.size, 1, none⟩ = some (.int .i64 (t.f1)) := blk_cell (blk_below HGt.out HZ.out) 1
        have zt2 : wD.cell? ⟨wC.heap.size, 2, none⟩ = some (.int .i64 (t.f2)) := blk_cell (blk_below HGt.out HZ.out) 2
        have zt3 : wD.cell? ⟨wC.heap.size, 3, none⟩ = some (.int .i64 (t.f3)) := blk_cell (blk_below HGt.out HZ.out) 3
        have zt4 : wD.cell? ⟨wC.heap.size, 4, none⟩ = some (.int .i64 (t.f4)) := blk_cell (blk_below HGt.out HZ.out) 4
        have zt5 : wD.cell? ⟨wC.heap.size, 5, none⟩ = some (.int .i64 (t.f5)) := blk_cell (blk_below HGt.out HZ.out) 5
        have zt6 : wD.cell? ⟨wC.heap.size, 6, none⟩ = some (.int .i64 (t.f6)) := blk_cell (blk_below HGt.out HZ.out) 6
        have zt7 : wD.cell? ⟨wC.heap.size, 7, none⟩ = some (.int .i64 (t.f7)) := blk_cell (blk_below HGt.out HZ.out) 7
        have zt8 : wD.cell? ⟨wC.heap.size, 8, none⟩ = some (.int .i64 (t.f8)) := blk_cell (blk_below HGt.out HZ.out) 8
        have zt9 : wD.cell? ⟨wC.heap.size, 9, none⟩ = some (.int .i64 (t.f9)) := blk_cell (blk_below HGt.out HZ.out) 9
        have zt10 : wD.cell? ⟨wC.heap.size, 10, none⟩ = some (.int .i64 (t.f10)) := blk_cell (blk_below HGt.out HZ.out) 10
        have zv0 : wD.cell? ⟨wC.heap.size + 1 + 1, 0, none⟩ = some (.string ⟨#[122, 122, 122]⟩) := blk_cell (blk_below HGv.out HZ.out) 0
        have zv1 : wD.cell? ⟨wC.heap.size + 1 + 1, 1, none⟩ = some (.int .i64 (t.f1)) := blk_cell (blk_below HGv.out HZ.out) 1
        have zv2 : wD.cell? ⟨wC.heap.size + 1 + 1, 2, none⟩ = some (.int .i64 (t.f2)) := blk_cell (blk_below HGv.out HZ.out) 2
        have zv3 : wD.cell? ⟨wC.heap.size + 1 + 1, 3, none⟩ = some (.int .i64 (t.f3)) := blk_cell (blk_below HGv.out HZ.out) 3
        have zv4 : wD.cell? ⟨wC.heap.size + 1 + 1, 4, none⟩ = some (.int .i64 (t.f4)) := blk_cell (blk_below HGv.out HZ.out) 4
        have zv5 : wD.cell? ⟨wC.heap.size + 1 + 1, 5, none⟩ = some (.int .i64 (t.f5)) := blk_cell (blk_below HGv.out HZ.out) 5
        have zv6 : wD.cell? ⟨wC.heap.size + 1 + 1, 6, none⟩ = some (.int .i64 (t.f6)) := blk_cell (blk_below HGv.out HZ.out) 6
        have zv7 : wD.cell? ⟨wC.heap.size + 1 + 1, 7, none⟩ = some (.int .i64 (t.f7)) := blk_cell (blk_below HGv.out HZ.out) 7
        have zv8 : wD.cell? ⟨wC.heap.size + 1 + 1, 8, none⟩ = some (.int .i64 (t.f8)) := blk_cell (blk_below HGv.out HZ.out) 8
        have zv9 : wD.cell? ⟨wC.heap.size + 1 + 1, 9, none⟩ = some (.int .i64 (t.f9)) := blk_cell (blk_below HGv.out HZ.out) 9
        have zv10 : wD.cell? ⟨wC.heap.size + 1 + 1, 10, none⟩ = some (.int .i64 ((t.f10 + 1) % 256)) := blk_cell (blk_below HGv.out HZ.out) 10
        have HC4 : Aside0 (Kd.C k32 (wD.alloc (.cells #[.string t.f0, .int .i64 t.f1, .int .i64 t.f2, .int .i64 t.f3, .int .i64 t.f4, .int .i64 t.f5, .int .i64 t.f6, .int .i64 t.f7, .int .i64 t.f8, .int .i64 t.f9, .int .i64 t.f10, .string ⟨#[122, 122, 122]⟩, .int .i64 t.f1, .int .i64 t.f2, .int .i64 t.f3, .int .i64 t.f4, .int .i64 t.f5, .int .i64 t.f6, .int .i64 t.f7, .int .i64 t.f8, .int .i64 t.f9, .int .i64 ((t.f10 + 1) % 256)] 32 (0, 0))) (some ⟨wD.heap.size, 0, none⟩) 2 [t, (⟨⟨#[122, 122, 122]⟩, t.f1, t.f2, t.f3, t.f4, t.f5, t.f6, t.f7, t.f8, t.f9, (t.f10 + 1) % 256⟩ : TK)]) := ⟨C_litT wD wD.heap.size rfl [t, (⟨⟨#[122, 122, 122]⟩, t.f1, t.f2, t.f3, t.f4, t.f5, t.f6, t.f7, t.f8, t.f9, (t.f10 + 1) % 256⟩ : TK)] (by simp) _ _ (lit_two t (⟨⟨#[122, 122, 122]⟩, t.f1, t.f2, t.f3, t.f4, t.f5, t.f6, t.f7, t.f8, t.f9, (t.f10 + 1) % 256⟩ : TK))⟩
        go_wp2_with fail
        clear zt0 zt1 zt2 zt3 zt4 zt5 zt6 zt7 zt8 zt9 zt10 zv0 zv1 zv2 zv3 zv4 zv5 zv6 zv7 zv8 zv9 zv10
        refine (why_ask 5 (some ⟨wD.heap.size, 0, none⟩) 2 [t, (⟨⟨#[122, 122, 122]⟩, t.f1, t.f2, t.f3, t.f4, t.f5, t.f6, t.f7, t.f8, t.f9, (t.f10 + 1) % 256⟩ : TK)] _ HC4.out (Nat.le_refl _)).mono ?_
        rintro e wE ⟨rfl, hb⟩
        rw [HV2.out]
        have HZ1 := Aside0.mk (below_step HZ.out (below_step (below_alloc (Below.refl _ _) _) hb))
        clear HZ hb HC4
        have HZ := HZ1
        clear HZ1
        have zt0 : wE.cell? ⟨wC.heap.size, 0, none⟩ = some (.string t.f0) := blk_cell (blk_below HGt.out HZ.out) 0
        have zt1 : wE.cell? ⟨wC.heap.size, 1, none⟩ = some (.int .i64 (t.f1)) := blk_cell (blk_below HGt.out HZ.out) 1
        have zt2 : wE.cell? ⟨wC.heap.size, 2, none⟩ = some (.int .i64 (t.f2)) := blk_cell (blk_below HGt.out HZ.out) 2
        have zt3 : wE.cell? ⟨wC.heap.size, 3, none⟩ = some (.int .i64 (t.f3)) := blk_cell (blk_below HGt.out HZ.out) 3
        have zt4 : wE.cell? ⟨wC.heap.size, 4, none⟩ = some (.int .i64 (t.f4)) := blk_cell (blk_below HGt.out HZ.out) 4
        have zt5 : wE.cell? ⟨wC.heap.size, 5, none⟩ = some (.int .i64 (t.f5)) := blk_cell (blk_below HGt.out HZ.out) 5
        have zt6 : wE.cell? ⟨wC.heap.size, 6, none⟩ = some (.int .i64 (t.f6)) := blk_cell (blk_below HGt.out HZ.out) 6
        have zt7 : wE.cell? ⟨wC.heap.size, 7, none⟩ = some (.int .i64 (t.f7)) := blk_cell (blk_below HGt.out HZ.out) 7
        have zt8 : wE.cell? ⟨wC.heap.size, 8, none⟩ = some (.int .i64 (t.f8)) := blk_cell (blk_below HGt.out HZ.out) 8
        have zt9 : wE.cell? ⟨wC.heap.size, 9, none⟩ = some (.int .i64 (t.f9)) := blk_cell (blk_below HGt.out HZ.out) 9
        have zt10 : wE.cell? ⟨wC.heap.size, 10, none⟩ = some (.int .i64 (t.f10)) := blk_cell (blk_below HGt.out HZ.out) 10
        have HC5 : Aside0 (Kd.C k32 (wE.alloc (.cells #[.string t.f0, .int .i64 t.f1, .int .i64 t.f2, .int .i64 t.f3, .int .i64 t.f4, .int .i64 t.f5, .int .i64 t.f6, .int .i64 t.f7, .int .i64 t.f8, .int .i64 t.f9, .int .i64 t.f10] 32 (0, 0))) (some ⟨wE.heap.size, 0, none⟩) 1 [t]) := ⟨C_litT wE wE.heap.size rfl [t] (by simp) _ _ (lit_one t)⟩
        go_wp2_with fail
        clear zt0 zt1 zt2 zt3 zt4 zt5 zt6 zt7 zt8 zt9 zt10
        refine (task_Right.calls 1000 (some ⟨wE.heap.size, 0, none⟩) 1 [t] true _ HC5.out (Nat.le_refl _) (by rw [show task_Right.f 1000 [t] = some ((whyS 1000 [t]).1 == 0) from rfl, HRT1.out])).mono ?_
        rintro e wF ⟨rfl, hb⟩
        have HZ1 := Aside0.mk (below_step HZ.out (below_step (below_alloc (Below.refl _ _) _) hb))
        clear HZ hb HC5
        have HZ := HZ1
        clear HZ1
        have zt0 : wF.cell? ⟨wC.heap.size, 0, none⟩ = some (.string t.f0) := blk_cell (blk_below HGt.out HZ.out) 0
        go_wp2_with fail
        go_ret
        exact ⟨rfl, below_step HBZ.out HZ.out⟩
      | false =>
        have hz1 : (t.f0.toList == [122, 122, 122]) = false := by have := HNZ.out; simpa using this
        have hz2 : (t.f0.toList != [122, 122, 122]) = true := by rw [bne, hz1]; rfl
        have HU2 : Aside0 (whyS 5 [t, (⟨⟨#[122, 122, 122]⟩, t.f1, t.f2, t.f3, t.f4, t.f5, t.f6, t.f7, t.f8, t.f9, t.f10⟩ : TK)] = (7, 1)) := ⟨HU.out⟩
        have HV2 : Aside0 (whyS 5 [t, (⟨⟨#[122, 122, 122]⟩, t.f1, t.f2, t.f3, t.f4, t.f5, t.f6, t.f7, t.f8, t.f9, (t.f10 + 1) % 256⟩ : TK)] = (0, -1)) := ⟨HV.out⟩
        clear HU HV HNZ
        go_wp2_with fail
        go_region
        go_wp2_with fail
        have HC3 : Aside0 (Kd.C k32 ((((wC.alloc (.cells #[.string t.f0, .int .i64 t.f1, .int .i64 t.f2, .int .i64 t.f3, .int .i64 t.f4, .int .i64 t.f5, .int .i64 t.f6, .int .i64 t.f7, .int .i64 t.f8, .int .i64 t.f9, .int .i64 t.f10] 32 (0, 0))).alloc (.cells #[.string ⟨#[122, 122, 122]⟩, .int .i64 t.f1, .int .i64 t.f2, .int .i64 t.f3, .int .i64 t.f4, .int .i64 t.f5, .int .i64 t.f6, .int .i64 t.f7, .int .i64 t.f8, .int .i64 t.f9, .int .i64 t.f10] 32 (0, 0))).alloc (.cells #[.string ⟨#[122, 122, 122]⟩, .int .i64 t.f1, .int .i64 t.f2, .int .i64 t.f3, .int .i64 t.f4, .int .i64 t.f5, .int .i64 t.f6, .int .i64 t.f7, .int .i64 t.f8, .int .i64 t.f9, .int .i64 ((t.f10 + 1) % 256)] 32 (0, 0))).alloc (.cells #[.string t.f0, .int .i64 t.f1, .int .i64 t.f2, .int .i64 t.f3, .int .i64 t.f4, .int .i64 t.f5, .int .i64 t.f6, .int .i64 t.f7, .int .i64 t.f8, .int .i64 t.f9, .int .i64 t.f10, .string ⟨#[122, 122, 122]⟩, .int .i64 t.f1, .int .i64 t.f2, .int .i64 t.f3, .int .i64 t.f4, .int .i64 t.f5, .int .i64 t.f6, .int .i64 t.f7, .int .i64 t.f8, .int .i64 t.f9, .int .i64 t.f10] 32 (0, 0))).drew (some ⟨wC.heap.size + 1 + 1 + 1, 0, none⟩) 2 [t, (⟨⟨#[122, 122, 122]⟩, t.f1, t.f2, t.f3, t.f4, t.f5, t.f6, t.f7, t.f8, t.f9, t.f10⟩ : TK)]) := ⟨Kd.C_drew (C_litT (((wC.alloc (.cells #[.string t.f0, .int .i64 t.f1, .int .i64 t.f2, .int .i64 t.f3, .int .i64 t.f4, .int .i64 t.f5, .int .i64 t.f6, .int .i64 t.f7, .int .i64 t.f8, .int .i64 t.f9, .int .i64 t.f10] 32 (0, 0))).alloc (.cells #[.string ⟨#[122, 122, 122]⟩, .int .i64 t.f1, .int .i64 t.f2, .int .i64 t.f3, .int .i64 t.f4, .int .i64 t.f5, .int .i64 t.f6, .int .i64 t.f7, .int .i64 t.f8, .int .i64 t.f9, .int .i64 t.f10] 32 (0, 0))).alloc (.cells #[.string ⟨#[122, 122, 122]⟩, .int .i64 t.f1, .int .i64 t.f2, .int .i64 t.f3, .int .i64 t.f4, .int .i64 t.f5, .int .i64 t.f6, .int .i64 t.f7, .int .i64 t.f8, .int .i64 t.f9, .int .i64 ((t.f10 + 1) % 256)] 32 (0, 0))) (wC.heap.size + 1 + 1 + 1) (by simp) [t, (⟨⟨#[122, 122, 122]⟩, t.f1, t.f2, t.f3, t.f4, t.f5, t.f6, t.f7, t.f8, t.f9, t.f10⟩ : TK)] (by simp) _ _ (lit_two t (⟨⟨#[122, 122, 122]⟩, t.f1, t.f2, t.f3, t.f4, t.f5, t.f6, t.f7, t.f8, t.f9, t.f10⟩ : TK)))⟩
        obtain ⟨wz, hwz⟩ : ∃ wz, wz = ((((wC.alloc (.cells #[.string t.f0, .int .i64 t.f1, .int .i64 t.f2, .int .i64 t.f3, .int .i64 t.f4, .int .i64 t.f5, .int .i64 t.f6, .int .i64 t.f7, .int .i64 t.f8, .int .i64 t.f9, .int .i64 t.f10] 32 (0, 0))).alloc (.cells #[.string ⟨#[122, 122, 122]⟩, .int .i64 t.f1, .int .i64 t.f2, .int .i64 t.f3, .int .i64 t.f4, .int .i64 t.f5, .int .i64 t.f6, .int .i64 t.f7, .int .i64 t.f8, .int .i64 t.f9, .int .i64 t.f10] 32 (0, 0))).alloc (.cells #[.string ⟨#[122, 122, 122]⟩, .int .i64 t.f1, .int .i64 t.f2, .int .i64 t.f3, .int .i64 t.f4, .int .i64 t.f5, .int .i64 t.f6, .int .i64 t.f7, .int .i64 t.f8, .int .i64 t.f9, .int .i64 ((t.f10 + 1) % 256)] 32 (0, 0))).alloc (.cells #[.string t.f0, .int .i64 t.f1, .int .i64 t.f2, .int .i64 t.f3, .int .i64 t.f4, .int .i64 t.f5, .int .i64 t.f6, .int .i64 t.f7, .int .i64 t.f8, .int .i64 t.f9, .int .i64 t.f10, .string ⟨#[122, 122, 122]⟩, .int .i64 t.f1, .int .i64 t.f2, .int .i64 t.f3, .int .i64 t.f4, .int .i64 t.f5, .int .i64 t.f6, .int .i64 t.f7, .int .i64 t.f8, .int .i64 t.f9, .int .i64 t.f10] 32 (0, 0))).drew := ⟨_, rfl⟩
        have HGt : Aside0 (wz.heap[wC.heap.size]? = some (.cells #[.string t.f0, .int .i64 t.f1, .int .i64 t.f2, .int .i64 t.f3, .int .i64 t.f4, .int .i64 t.f5, .int .i64 t.f6, .int .i64 t.f7, .int .i64 t.f8, .int .i64 t.f9, .int .i64 t.f10] 32 (0, 0))) := ⟨by
          rw [hwz]
          refine (show ((((wC.alloc (.cells #[.string t.f0, .int .i64 t.f1, .int .i64 t.f2, .int .i64 t.f3, .int .i64 t.f4, .int .i64 t.f5, .int .i64 t.f6, .int .i64 t.f7, .int .i64 t.f8, .int .i64 t.f9, .int .i64 t.f10] 32 (0, 0))).alloc (.cells #[.string ⟨#[122, 122, 122]⟩, .int .i64 t.f1, .int .i64 t.f2, .int .i64 t.f3, .int .i64 t.f4, .int .i64 t.f5, .int .i64 t.f6, .int .i64 t.f7, .int .i64 t.f8, .int .i64 t.f9, .int .i64 t.f10] 32 (0, 0))).alloc (.cells #[.string ⟨#[122, 122, 122]⟩, .int .i64 t.f1, .int .i64 t.f2, .int .i64 t.f3, .int .i64 t.f4, .int .i64 t.f5, .int .i64 t.f6, .int .i64 t.f7, .int .i64 t.f8, .int .i64 t.f9, .int .i64 ((t.f10 + 1) % 256)] 32 (0, 0))).alloc (.cells #[.string t.f0, .int .i64 t.f1, .int .i64 t.f2, .int .i64 t.f3, .int .i64 t.f4, .int .i64 t.f5, .int .i64 t.f6, .int .i64 t.f7, .int .i64 t.f8, .int .i64 t.f9, .int .i64 t.f10, .string ⟨#[122, 122, 122]⟩, .int .i64 t.f1, .int .i64 t.f2, .int .i64 t.f3, .int .i64 t.f4, .int .i64 t.f5, .int .i64 t.f6, .int .i64 t.f7, .int .i64 t.f8, .int .i64 t.f9, .int .i64 t.f10] 32 (0, 0))).heap[wC.heap.size]? = _ from ?_)
          refine blk_alloc ?_ _
          refine blk_alloc ?_ _
          refine blk_alloc ?_ _
          have h := blk_new wC (.cells #[.string t.f0, .int .i64 t.f1, .int .i64 t.f2, .int .i64 t.f3, .int .i64 t.f4, .int .i64 t.f5, .int .i64 t.f6, .int .i64 t.f7, .int .i64 t.f8, .int .i64 t.f9, .int .i64 t.f10] 32 (0, 0))
          simpa using h⟩
        have HGu : Aside0 (wz.heap[wC.heap.size + 1]? = some (.cells #[.string ⟨#[122, 122, 122]⟩, .int .i64 t.f1, .int .i64 t.f2, .int .i64 t.f3, .int .i64 t.f4, .int .i64 t.f5, .int .i64 t.f6, .int .i64 t.f7, .int .i64 t.f8, .int .i64 t.f9, .int .i64 t.f10] 32 (0, 0))) := ⟨by
          rw [hwz]
          refine (show ((((wC.alloc (.cells #[.string t.f0, .int .i64 t.f1, .int .i64 t.f2, .int .i64 t.f3, .int .i64 t.f4, .int .i64 t.f5, .int .i64 t.f6, .int .i64 t.f7, .int .i64 t.f8, .int .i64 t.f9, .int .i64 t.f10] 32 (0, 0))).alloc (.cells #[.string ⟨#[122, 122, 122]⟩, .int .i64 t.f1, .int .i64 t.f2, .int .i64 t.f3, .int .i64 t.f4, .int .i64 t.f5, .int .i64 t.f6, .int .i64 t.f7, .int .i64 t.f8, .int .i64 t.f9, .int .i64 t.f10] 32 (0, 0))).alloc (.cells #[.string ⟨#[122, 122, 122]⟩, .int .i64 t.f1, .int .i64 t.f2, .int .i64 t.f3, .int .i64 t.f4, .int .i64 t.f5, .int .i64 t.f6, .int .i64 t.f7, .int .i64 t.f8, .int .i64 t.f9, .int .i64 ((t.f10 + 1) % 256)] 32 (0, 0))).alloc (.cells #[.string t.f0, .int .i64 t.f1, .int .i64 t.f2, .int .i64 t.f3, .int .i64 t.f4, .int .i64 t.f5, .int .i64 t.f6, .int .i64 t.f7, .int .i64 t.f8, .int .i64 t.f9, .int .i64 t.f10, .string ⟨#[122, 122, 122]⟩, .int .i64 t.f1, .int .i64 t.f2, .int .i64 t.f3, .int .i64 t.f4, .int .i64 t.f5, .int .i64 t.f6, .int .i64 t.f7, .int .i64 t.f8, .int .i64 t.f9, .int .i64 t.f10] 32 (0, 0))).heap[wC.heap.size + 1]? = _ from ?_)
          refine blk_alloc ?_ _
          refine blk_alloc ?_ _
          have h := blk_new (wC.alloc (.cells #[.string t.f0, .int .i64 t.f1, .int .i64 t.f2, .int .i64 t.f3, .int .i64 t.f4, .int .i64 t.f5, .int .i64 t.f6, .int .i64 t.f7, .int .i64 t.f8, .int .i64 t.f9, .int .i64 t.f10] 32 (0, 0))) (.cells #[.string ⟨#[122, 122, 122]⟩, .int .i64 t.f1, .int .i64 t.f2, .int .i64 t.f3, .int .i64 t.f4, .int .i64 t.f5, .int .i64 t.f6, .int .i64 t.f7, .int .i64 t.f8, .int .i64 t.f9, .int .i64 t.f10] 32 (0, 0))
          simpa using h⟩
        have HGv : Aside0 (wz.heap[wC.heap.size + 1 + 1]? = some (.cells #[.string ⟨#[122, 122, 122]⟩, .int .i64 t.f1, .int .i64 t.f2, .int .i64 t.f3, .int .i64 t.f4, .int .i64 t.f5, .int .i64 t.f6, .int .i64 t.f7, .int .i64 t.f8, .int .i64 t.f9, .int .i64 ((t.f10 + 1) % 256)] 32 (0, 0))) := ⟨by
          rw [hwz]
          refine (show ((((wC.alloc (.cells #[.string t.f0, .int .i64 t.f1, .int .i64 t.f2, .int .i64 t.f3, .int .i64 t.f4, .int .i64 t.f5, .int .i64 t.f6, .int .i64 t.f7, .int .i64 t.f8, .int .i64 t.f9, .int .i64 t.f10] 32 (0, 0))).alloc (.cells #[.string ⟨#[122, 122, 122]⟩, .int .i64 t.f1, .int .i64 t.f2, .int .i64 t.f3, .int .i64 t.f4, .int .i64 t.f5, .int .i64 t.f6, .int .i64 t.f7, .int .i64 t.f8, .int .i64 t.f9, .int .i64 t.f10] 32 (0, 0))).alloc (.cells #[.string ⟨#[122, 122, 122]⟩, .int .i64 t.f1, .int .i64 t.f2, .int .i64 t.f3, .int .i64 t.f4, .int .i64 t.f5, .int .i64 t.f6, .int .i64 t.f7, .int .i64 t.f8, .int .i64 t.f9, .int .i64 ((t.f10 + 1) % 256)] 32 (0, 0))).alloc (.cells #[.string t.f0, .int .i64 t.f1, .int .i64 t.f2, .int .i64 t.f3, .int .i64 t.f4, .int .i64 t.f5, .int .i64 t.f6, .int .i64 t.f7, .int .i64 t.f8, .int .i64 t.f9, .int .i64 t.f10, .string ⟨#[122, 122, 122]⟩, .int .i64 t.f1, .int .i64 t.f2, .int .i64 t.f3, .int .i64 t.f4, .int .i64 t.f5, .int .i64 t.f6, .int .i64 t.f7, .int .i64 t.f8, .int .i64 t.f9, .int .i64 t.f10] 32 (0, 0))).heap[wC.heap.size + 1 + 1]? = _ from ?_)
          refine blk_alloc ?_ _
          have h := blk_new ((wC.alloc (.cells #[.string t.f0, .int .i64 t.f1, .int .i64 t.f2, .int .i64 t.f3, .int .i64 t.f4, .int .i64 t.f5, .int .i64 t.f6, .int .i64 t.f7, .int .i64 t.f8, .int .i64 t.f9, .int .i64 t.f10] 32 (0, 0))).alloc (.cells #[.string ⟨#[122, 122, 122]⟩, .int .i64 t.f1, .int .i64 t.f2, .int .i64 t.f3, .int .i64 t.f4, .int .i64 t.f5, .int .i64 t.f6, .int .i64 t.f7, .int .i64 t.f8, .int .i64 t.f9, .int .i64 t.f10] 32 (0, 0))) (.cells #[.string ⟨#[122, 122, 122]⟩, .int .i64 t.f1, .int .i64 t.f2, .int .i64 t.f3, .int .i64 t.f4, .int .i64 t.f5, .int .i64 t.f6, .int .i64 t.f7, .int .i64 t.f8, .int .i64 t.f9, .int .i64 ((t.f10 + 1) % 256)] 32 (0, 0))
          simpa using h⟩
        have HBZ : Aside0 (Below W.heap.size W wz) := ⟨by rw [hwz]; exact below_drew (below_alloc (below_alloc (below_alloc (below_alloc HB.out _) _) _) _)⟩
        rw [← hwz] at HC3
        rw [← hwz]
        clear hwz HB HK s0 s1 sA x0 xA0 x1 xA1 x2 xA2 x3 xA3 x4 xA4 x5 xA5 x6 xA6 x7 xA7 x8 xA8 x9 xA9 x10 xA10
        refine (why_ask 5 (some ⟨wC.heap.size + 1 + 1 + 1, 0, none⟩) 2 [t, (⟨⟨#[122, 122, 122]⟩, t.f1, t.f2, t.f3, t.f4, t.f5, t.f6, t.f7, t.f8, t.f9, t.f10⟩ : TK)] _ HC3.out (Nat.le_refl _)).mono ?_
        rintro e wD ⟨rfl, hb⟩
        rw [HU2.out]
        have HZ := Aside0.mk hb
        clear hb HC3
        have zt0 : wD.cell? ⟨wC.heap.size, 0, none⟩ = some (.string t.f0) := blk_cell (blk_below HGt.out HZ.out) 0
        have zt1 : wD.cell? ⟨wC.heap.size, 1, none⟩ = some (.int .i64 (t.f1)) := blk_cell (blk_below HGt.out HZ.out) 1
        have zt2 : wD.cell? ⟨wC.heap.size, 2, none⟩ = some (.int .i64 (t.f2)) := blk_cell (blk_below HGt.out HZ.out) 2
        have zt3 : wD.cell? ⟨wC.heap.size, 3, none⟩ = some (.int .i64 (t.f3)) := blk_cell (blk_below HGt.out HZ.out) 3
        have zt4 : wD.cell? ⟨wC.heap.size, 4, none⟩ = some (.int .i64 (t.f4)) := blk_cell (blk_below HGt.out HZ.out) 4
        have zt5 : wD.cell? ⟨wC.heap.size, 5, none⟩ = some (.int .i64 (t.f5)) := blk_cell (blk_below HGt.out HZ.out) 5
        have zt6 : wD.cell? ⟨wC.heap.size, 6, none⟩ = some (.int .i64 (t.f6)) := blk_cell (blk_below HGt.out HZ.out) 6
        have zt7 : wD.cell? ⟨wC.heap.size, 7, none⟩ = some (.int .i64 (t.f7)) := blk_cell (blk_below HGt.out HZ.out) 7
        have zt8 : wD.cell? ⟨wC.heap.size, 8, none⟩ = some (.int .i64 (t.f8)) := blk_cell (blk_below HGt.out HZ.out) 8
        have zt9 : wD.cell? ⟨wC.heap.size, 9, none⟩ = some (.int .i64 (t.f9)) := blk_cell (blk_below HGt.out HZ.out) 9
        have zt10 : wD.cell? ⟨wC.heap.size, 10, none⟩ = some (.int .i64 (t.f10)) := blk_cell (blk_below HGt.out HZ.out) 10
        have zv0 : wD.cell? ⟨wC.heap.size + 1 + 1, 0, none⟩ = some (.string ⟨#[122, 122, 122]⟩) := blk_cell (blk_below HGv.out HZ.out) 0
        have zv1 : wD.cell? ⟨wC.heap.size + 1 + 1, 1, none⟩ = some (.int .i64 (t.f1)) := blk_cell (blk_below HGv.out HZ.out) 1
        have zv2 : wD.cell? ⟨wC.heap.size + 1 + 1, 2, none⟩ = some (.int .i64 (t.f2)) := blk_cell (blk_below HGv.out HZ.out) 2
        have zv3 : wD.cell? ⟨wC.heap.size + 1 + 1, 3, none⟩ = some (.int .i64 (t.f3)) := blk_cell (blk_below HGv.out HZ.out) 3
        have zv4 : wD.cell? ⟨wC.heap.size + 1 + 1, 4, none⟩ = some (.int .i64 (t.f4)) := blk_cell (blk_below HGv.out HZ.out) 4
        have zv5 : wD.cell? ⟨wC.heap.size + 1 + 1, 5, none⟩ = some (.int .i64 (t.f5)) := blk_cell (blk_below HGv.out HZ.out) 5
        have zv6 : wD.cell? ⟨wC.heap.size + 1 + 1, 6, none⟩ = some (.int .i64 (t.f6)) := blk_cell (blk_below HGv.out HZ.out) 6
        have zv7 : wD.cell? ⟨wC.heap.size + 1 + 1, 7, none⟩ = some (.int .i64 (t.f7)) := blk_cell (blk_below HGv.out HZ.out) 7
        have zv8 : wD.cell? ⟨wC.heap.size + 1 + 1, 8, none⟩ = some (.int .i64 (t.f8)) := blk_cell (blk_below HGv.out HZ.out) 8
        have zv9 : wD.cell? ⟨wC.heap.size + 1 + 1, 9, none⟩ = some (.int .i64 (t.f9)) := blk_cell (blk_below HGv.out HZ.out) 9
        have zv10 : wD.cell? ⟨wC.heap.size + 1 + 1, 10, none⟩ = some (.int .i64 ((t.f10 + 1) % 256)) := blk_cell (blk_below HGv.out HZ.out) 10
        have HC4 : Aside0 (Kd.C k32 (wD.alloc (.cells #[.string t.f0, .int .i64 t.f1, .int .i64 t.f2, .int .i64 t.f3, .int .i64 t.f4, .int .i64 t.f5, .int .i64 t.f6, .int .i64 t.f7, .int .i64 t.f8, .int .i64 t.f9, .int .i64 t.f10, .string ⟨#[122, 122, 122]⟩, .int .i64 t.f1, .int .i64 t.f2, .int .i64 t.f3, .int .i64 t.f4, .int .i64 t.f5, .int .i64 t.f6, .int .i64 t.f7, .int .i64 t.f8, .int .i64 t.f9, .int .i64 ((t.f10 + 1) % 256)] 32 (0, 0))) (some ⟨wD.heap.size, 0, none⟩) 2 [t, (⟨⟨#[122, 122, 122]⟩, t.f1, t.f2, t.f3, t.f4, t.f5, t.f6, t.f7, t.f8, t.f9, (t.f10 + 1) % 256⟩ : TK)]) := ⟨C_litT wD wD.heap.size rfl [t, (⟨⟨#[122, 122, 122]⟩, t.f1, t.f2, t.f3, t.f4, t.f5, t.f6, t.f7, t.f8, t.f9, (t.f10 + 1) % 256⟩ : TK)] (by simp) _ _ (lit_two t (⟨⟨#[122, 122, 122]⟩, t.f1, t.f2, t.f3, t.f4, t.f5, t.f6, t.f7, t.f8, t.f9, (t.f10 + 1) % 256⟩ : TK))⟩
        go_wp2_with fail
        clear zt0 zt1 zt2 zt3 zt4 zt5 zt6 zt7 zt8 zt9 zt10 zv0 zv1 zv2 zv3 zv4 zv5 zv6 zv7 zv8 zv9 zv10
        refine (why_ask 5 (some ⟨wD.heap.size, 0, none⟩) 2 [t, (⟨⟨#[122, 122, 122]⟩, t.f1, t.f2, t.f3, t.f4, t.f5, t.f6, t.f7, t.f8, t.f9, (t.f10 + 1) % 256⟩ : TK)] _ HC4.out (Nat.le_refl _)).mono ?_
        rintro e wE ⟨rfl, hb⟩
        rw [HV2.out]
        have HZ1 := Aside0.mk (below_step HZ.out (below_step (below_alloc (Below.refl _ _) _) hb))
        clear HZ hb HC4
        have HZ := HZ1
        clear HZ1
        have zt0 : wE.cell? ⟨wC.heap.size, 0, none⟩ = some (.string t.f0) := blk_cell (blk_below HGt.out HZ.out) 0
        have zt1 : wE.cell? ⟨wC.heap.size, 1, none⟩ = some (.int .i64 (t.f1)) := blk_cell (blk_below HGt.out HZ.out) 1
        have zt2 : wE.cell? ⟨wC.heap.size, 2, none⟩ = some (.int .i64 (t.f2)) := blk_cell (blk_below HGt.out HZ.out) 2
        have zt3 : wE.cell? ⟨wC.heap.size, 3, none⟩ = some (.int .i64 (t.f3)) := blk_cell (blk_below HGt.out HZ.out) 3
        have zt4 : wE.cell? ⟨wC.heap.size, 4, none⟩ = some (.int .i64 (t.f4)) := blk_cell (blk_below HGt.out HZ.out) 4
        have zt5 : wE.cell? ⟨wC.heap.size, 5, none⟩ = some (.int .i64 (t.f5)) := blk_cell (blk_below HGt.out HZ.out) 5
        have zt6 : wE.cell? ⟨wC.heap.size, 6, none⟩ = some (.int .i64 (t.f6)) := blk_cell (blk_below HGt.out HZ.out) 6
        have zt7 : wE.cell? ⟨wC.heap.size, 7, none⟩ = some (.int .i64 (t.f7)) := blk_cell (blk_below HGt.out HZ.out) 7
        have zt8 : wE.cell? ⟨wC.heap.size, 8, none⟩ = some (.int .i64 (t.f8)) := blk_cell (blk_below HGt.out HZ.out) 8
        have zt9 : wE.cell? ⟨wC.heap.size, 9, none⟩ = some (.int .i64 (t.f9)) := blk_cell (blk_below HGt.out HZ.out) 9
        have zt10 : wE.cell? ⟨wC.heap.size, 10, none⟩ = some (.int .i64 (t.f10)) := blk_cell (blk_below HGt.out HZ.out) 10
        have HC5 : Aside0 (Kd.C k32 (wE.alloc (.cells #[.string t.f0, .int .i64 t.f1, .int .i64 t.f2, .int .i64 t.f3, .int .i64 t.f4, .int .i64 t.f5, .int .i64 t.f6, .int .i64 t.f7, .int .i64 t.f8, .int .i64 t.f9, .int .i64 t.f10] 32 (0, 0))) (some ⟨wE.heap.size, 0, none⟩) 1 [t]) := ⟨C_litT wE wE.heap.size rfl [t] (by simp) _ _ (lit_one t)⟩
        go_wp2_with fail
        clear zt0 zt1 zt2 zt3 zt4 zt5 zt6 zt7 zt8 zt9 zt10
        refine (task_Right.calls 1000 (some ⟨wE.heap.size, 0, none⟩) 1 [t] true _ HC5.out (Nat.le_refl _) (by rw [show task_Right.f 1000 [t] = some ((whyS 1000 [t]).1 == 0) from rfl, HRT1.out])).mono ?_
        rintro e wF ⟨rfl, hb⟩
        have HZ1 := Aside0.mk (below_step HZ.out (below_step (below_alloc (Below.refl _ _) _) hb))
        clear HZ hb HC5
        have HZ := HZ1
        clear HZ1
        have zt0 : wF.cell? ⟨wC.heap.size, 0, none⟩ = some (.string t.f0) := blk_cell (blk_below HGt.out HZ.out) 0
        go_wp2_with fail
        go_ret
        exact ⟨rfl, below_step HBZ.out HZ.out⟩
end Go.Proofs.YtphppahjkcnjlaaDoor.Q
