-- gap.Least: walked by hand.
-- HAND pendulum/gap.Least rounds=0 making=1
-- NEEDS pendulum/verdict.Judge pendulum/task.Right
import Derived.Test.YtefenbhcbpfihaaDoorM0
import Derived.Test.YtefenbhcbpfihaaDoorM5
import Derived.Test.YtefenbhcbpfihaaDoorHgapA
import Derived.Test.YtefenbhcbpfihaaDoorHtaskC
import Derived.Test.YtefenbhcbpfihaaDoorM17
import Derived.IntWalk
import Derived.WalkSpells
import Derived.BigQuiet
namespace Go.Proofs.YtefenbhcbpfihaaDoor.Q
open Go.RowKit Go.Proofs.YtefenbhcbpfihaaDoorW.PrintWords Go.Proofs.YtefenbhcbpfihaaDoorW.PrintLast Go.Proofs.YtefenbhcbpfihaaDoorW.PrintMore
attribute [local go_sem] max2_int min2_int max_two min_two max_three min_three max_four min_four   -- for this text's walks alone
set_option linter.unusedVariables false
set_option linter.unusedSimpArgs false

attribute [local go_sem] run_store_func
def gap_Least.f (b : Int) (ts : List TK) : Option (Int × Bool × Int × List Int × Int) :=
 if ((whyS b ts).1 == 0) = true then (if gapI b ts < 1049576 then some ((gapI b ts : Int) + 1, (jdg b ts ((gapI b ts : Int) + 1)).1, (jdg b ts ((gapI b ts : Int) + 1)).2.1, (jdg b ts ((gapI b ts : Int) + 1)).2.2, 0) else some (0, (jdg b ts 1049576).1, (jdg b ts 1049576).2.1, (jdg b ts 1049576).2.2, 4)) else some (0, false, 0, [], 1)
set_option maxHeartbeats 8000000 in
set_option maxRecDepth 100000 in
theorem gap_Least.calls (a0_0 : Int) (A0_1 : Option Addr) (c0_1 : Nat) (l0_1 : List TK) (r1 : Int) (r2 : Bool) (r3 : Int) (r4 : List Int) (r5 : Int) (w : World) (hr0_1 : Kd.C k39 w A0_1 l0_1.length l0_1) (hc0_1 : l0_1.length ≤ c0_1) (h : gap_Least.f a0_0 l0_1 = some (r1, r2, r3, r4, r5)) :
  Calls Tryd.prog 11 #[.agg #[.int .i64 a0_0, .slice A0_1 l0_1.length c0_1]] w fun e w' => ∃ v3_ : Value, e = .returned (.tuple #[.int .i64 r1, .agg #[.bool r2, .int .i64 r3, v3_], .int .i64 r5]) ∧ Kd.R (Kd.int .i64) 3 w' w.heap.size (fun _ => True) v3_ r4 ∧ Below w.heap.size w w' := by
 have HC := Aside0.mk hr0_1
 have HCC := Aside0.mk hc0_1
 have HF := Aside0.mk h
 obtain ⟨W1, hW1⟩ : ∃ W1, W1 = (w.alloc (.cells #[.int .i64 a0_0, .slice A0_1 l0_1.length c0_1] 24 (0, 0))).alloc (.cells #[.bool false, .int .i64 0, .slice none 0 0] 30 (0, 0)) := ⟨_, rfl⟩
 obtain ⟨gs, hgs⟩ : ∃ gs, w.heap.size = gs := ⟨_, rfl⟩
 have HB : Aside0 (Below w.heap.size w W1) := ⟨by rw [hW1]; exact below_alloc (below_alloc (Below.refl _ _) _) _⟩
 have HGS : Aside0 (W1.heap[gs]? = some (.cells #[.int .i64 a0_0, .slice A0_1 l0_1.length c0_1] 24 (0, 0))) := ⟨by rw [hW1, ← hgs]; exact blk_alloc (blk_new w _) _⟩
 have HGV : Aside0 (W1.heap[gs + 1]? = some (.cells #[.bool false, .int .i64 0, .slice none 0 0] 30 (0, 0))) := ⟨by
  rw [hW1, ← hgs]
  have h := blk_new (w.alloc (.cells #[.int .i64 a0_0, .slice A0_1 l0_1.length c0_1] 24 (0, 0))) (.cells #[.bool false, .int .i64 0, .slice none 0 0] 30 (0, 0))
  rwa [show (w.alloc (.cells #[.int .i64 a0_0, .slice A0_1 l0_1.length c0_1] 24 (0, 0))).heap.size = w.heap.size + 1 by simp] at h⟩
 have HWE := Aside0.mk hW1
 have HGSE : Aside0 (w.heap.size ≤ gs) := ⟨Nat.le_of_eq hgs⟩
 obtain ⟨rb, hrb⟩ : ∃ rb, ((whyS a0_0 l0_1).1 == 0) = rb := ⟨_, rfl⟩
 have HRB := Aside0.mk hrb
 clear hr0_1 hc0_1 h hW1 hrb
 go_enter Tryd.func11, Tryd.ntmps11
 go_wp2_with fail
 rw [← HWE.out]
 try rw [hgs]
 refine (task_Right.calls a0_0 A0_1 c0_1 l0_1 rb _ (Kd.C_below HC.out HB.out) HCC.out (by show some ((whyS a0_0 l0_1).1 == 0) = some rb; rw [HRB.out])).mono ?_
 rintro e wA ⟨rfl, hb⟩
 have HB1 := Aside0.mk (below_step HB.out hb); have HS1 := Aside0.mk (blk_below HGS.out hb); have HV1 := Aside0.mk (blk_below HGV.out hb)
 clear HB HGS HGV hb; have HB := HB1; have HGS := HS1; have HGV := HV1; clear HB1 HS1 HV1
 cases rb with
 | false =>
  have hF := HF.out
  unfold gap_Least.f at hF
  rw [HRB.out, if_neg (by decide)] at hF
  simp only [Option.some.injEq, Prod.mk.injEq] at hF
  obtain ⟨rfl, rfl, rfl, rfl, rfl⟩ := hF
  clear HF
  have v0 := blk_cell HGV.out 0
  have v1 := blk_cell HGV.out 1
  have v2 := blk_cell HGV.out 2
  have f0 := blk_frozen HGV.out 0
  have f1 := blk_frozen HGV.out 1
  have f2 := blk_frozen HGV.out 2
  go_wp2_with fail
  have HGE : Aside0 (w.heap.size ≤ gs + 1) := ⟨by have := HGSE.out; omega⟩
  refine bodyPost_ret (results_list (rs := [.tmp 2, .cell 3 30, .tmp 4]) rfl (by simp) (.tmp (.cell (gs + 1) 30 #[.bool false, .int .i64 0, .slice none 0 0] (0, 0) _ rfl (by (with_reducible repeat (first | refine blk_drewN ?_ _ | refine blk_drew ?_)); refine blk_put (cs := #[.bool false, .int .i64 0, .slice none 0 0]) ?_ 2 _ rfl; (with_reducible repeat (first | refine blk_drewN ?_ _ | refine blk_drew ?_)); refine blk_put (cs := #[.bool false, .int .i64 0, .slice none 0 0]) ?_ 1 _ rfl; (with_reducible repeat (first | refine blk_drewN ?_ _ | refine blk_drew ?_)); refine blk_put (cs := #[.bool false, .int .i64 0, .slice none 0 0]) ?_ 0 _ rfl; (with_reducible repeat (first | refine blk_drewN ?_ _ | refine blk_drew ?_)); exact HGV.out) Tryd.underlying30 rfl (by kernel_rfl) (.tmp .nil)))) rfl ?_
  exact ⟨_, rfl, Kd.R_nil _ _ _ _ _, by repeat (first | exact HB.out | apply pw_below_drewN | apply below_drew | refine below_set ?_ HGE.out)⟩
 | true =>
  have hR : RightS a0_0 l0_1 := (rightS_iff a0_0 l0_1).1 (by have := HRB.out; simpa using this)
  have HRS := Aside0.mk hR
  go_wp2_with fail
  obtain ⟨gf, hgf⟩ : ∃ gf, wA.heap.size = gf := ⟨_, rfl⟩
  obtain ⟨W3, hW3⟩ : ∃ W3, W3 = wA.alloc (.cells #[.func (.func 18) #[] #[.pointer (some ⟨gs, 0, none⟩)]] 45 (0, 0)) := ⟨_, rfl⟩
  have HB3 : Aside0 (Below w.heap.size w W3) := ⟨by rw [hW3]; exact below_alloc HB.out _⟩
  have HS3 : Aside0 (W3.heap[gs]? = some (.cells #[.int .i64 a0_0, .slice A0_1 l0_1.length c0_1] 24 (0, 0))) := ⟨by rw [hW3]; exact blk_alloc HGS.out _⟩
  have HV3 : Aside0 (W3.heap[gs + 1]? = some (.cells #[.bool false, .int .i64 0, .slice none 0 0] 30 (0, 0))) := ⟨by rw [hW3]; exact blk_alloc HGV.out _⟩
  have HF3 : Aside0 (W3.heap[gf]? = some (.cells #[.func (.func 18) #[] #[.pointer (some ⟨gs, 0, none⟩)]] 45 (0, 0))) := ⟨by rw [hW3, ← hgf]; exact blk_new wA _⟩
  rw [← hW3, hgf]
  clear hW3 hgf HB HGS HGV
  have hs := search_ask 1049576 20 #[.pointer (some ⟨gf, 0, none⟩)] (fun i => accB a0_0 l0_1 ((i : Int) + 1)) W3 (fun args w => by go_simp; done) (by omega) (fun i hi W' hb => acc2_ask hR i hi A0_1 c0_1 gs gf W' (Kd.C_below (Kd.C_below HC.out HB3.out) hb) HCC.out (blk_below HS3.out hb) (blk_below HF3.out hb)) (fun a c hac hc2 h => acc_mono hR (by omega) (by omega) h)
  rw [show ((1049576 : Nat) : Int) = 1049576 from rfl] at hs
  refine hs.mono ?_
  clear hs
  rintro e wS ⟨i, rfl, hi, hlo, hup, hb⟩
  have HGI : Aside0 (gapI a0_0 l0_1 = i) := ⟨gapI_found i hi hlo hup⟩
  have HBS := Aside0.mk (below_step HB3.out hb)
  have HSS := Aside0.mk (blk_below HS3.out hb)
  have HVS := Aside0.mk (blk_below HV3.out hb)
  clear hlo hup hb HB3 HS3 HV3 HF3
  have hw : IntKind.i64.wrap (1 + (i : Int)) = 1 + (i : Int) := IntWalk.i64_in _ (by omega)
  have s0 := blk_cell HSS.out 0
  have s1 := blk_cell HSS.out 1
  by_cases hN : i < 1049576
  ·have d1 : decide (1 + (i : Int) > 1049576) = false := decide_eq_false (by omega)
   have d2 : decide (1049576 < 1 + (i : Int)) = false := decide_eq_false (by omega)
   obtain ⟨jj, hj⟩ : ∃ jj, jdg a0_0 l0_1 (1 + (i : Int)) = jj := ⟨_, rfl⟩
   obtain ⟨j1, j2, j3⟩ := jj
   have HJ := Aside0.mk (judge_ask hR (show (1 : Int) ≤ 1 + (i : Int) by omega) (by omega) A0_1 c0_1 wS (Kd.C_below HC.out HBS.out) HCC.out)
   rw [hj] at HJ
   have hF := HF.out
   unfold gap_Least.f at hF
   rw [HRB.out, if_pos rfl, HGI.out, if_pos hN, Int.add_comm, hj] at hF
   simp only [Option.some.injEq, Prod.mk.injEq] at hF
   obtain ⟨rfl, rfl, rfl, rfl, rfl⟩ := hF
   clear HF hj hR
   simp only at HJ
   go_wp2_with fail
   clear s0 s1
   refine HJ.out.mono ?_
   rintro e wJ ⟨A2, c2, rfl, hR, hb⟩
   have HBJ := Aside0.mk (below_step HBS.out hb)
   have HVJ := Aside0.mk (blk_below HVS.out hb)
   have HRJ := Aside0.mk (Kd.R_lower hR HBS.out.size)
   clear hR hb HVS HSS
   go_upto_region 9 with fail
   obtain ⟨g9, hg9⟩ : ∃ g9, wJ.heap.size = g9 := ⟨_, rfl⟩
   obtain ⟨W9, hW9⟩ : ∃ W9, W9 = wJ.alloc (.cells #[.bool j1, .int .i64 j2, .slice A2 j3.length c2] 30 (0, 0)) := ⟨_, rfl⟩
   have HB9 : Aside0 (Below w.heap.size w W9) := ⟨by rw [hW9]; exact below_alloc HBJ.out _⟩
   have HV9 : Aside0 (W9.heap[gs + 1]? = some (.cells #[.bool false, .int .i64 0, .slice none 0 0] 30 (0, 0))) := ⟨by rw [hW9]; exact blk_alloc HVJ.out _⟩
   have HG9 : Aside0 (W9.heap[g9]? = some (.cells #[.bool j1, .int .i64 j2, .slice A2 j3.length c2] 30 (0, 0))) := ⟨by rw [hW9, ← hg9]; exact blk_new wJ _⟩
   have HR9 : Aside0 (Kd.R (Kd.int .i64) 3 W9 w.heap.size (fun _ => True) (.slice A2 j3.length c2) j3) := ⟨by rw [hW9]; exact Kd.R_alloc HRJ.out _⟩
   have hne : g9 ≠ gs + 1 := by
    have h1 := blk_lt HVJ.out
    omega
   have hne2 : gs + 1 ≠ g9 := fun e => hne e.symm
   rw [← hW9, hg9]
   clear hW9 hg9 HBJ HVJ HRJ
   have u0 := blk_cell HG9.out 0
   have u1 := blk_cell HG9.out 1
   have u2 := blk_cell HG9.out 2
   have v0 := blk_cell HV9.out 0
   have v1 := blk_cell HV9.out 1
   have v2 := blk_cell HV9.out 2
   have f0 := blk_frozen HV9.out 0
   have f1 := blk_frozen HV9.out 1
   have f2 := blk_frozen HV9.out 2
   go_wp2_with fail
   go_region
   go_wp2_with fail
   have HGE : Aside0 (w.heap.size ≤ gs + 1) := ⟨by have := HGSE.out; omega⟩
   refine bodyPost_ret (results_list (rs := [.tmp 2, .cell 3 30, .tmp 4]) rfl (by simp) (.tmp (.cell (gs + 1) 30 #[.bool j1, .int .i64 j2, .slice A2 j3.length c2] (0, 0) _ rfl (by (with_reducible repeat (first | refine blk_drewN ?_ _ | refine blk_drew ?_)); refine blk_put (cs := #[.bool j1, .int .i64 j2, .slice none 0 0]) ?_ 2 _ rfl; (with_reducible repeat (first | refine blk_drewN ?_ _ | refine blk_drew ?_)); refine blk_put (cs := #[.bool j1, .int .i64 0, .slice none 0 0]) ?_ 1 _ rfl; (with_reducible repeat (first | refine blk_drewN ?_ _ | refine blk_drew ?_)); refine blk_put (cs := #[.bool false, .int .i64 0, .slice none 0 0]) ?_ 0 _ rfl; (with_reducible repeat (first | refine blk_drewN ?_ _ | refine blk_drew ?_)); exact HV9.out) Tryd.underlying30 rfl (by kernel_rfl) (.tmp .nil)))) rfl ?_
   exact ⟨_, rfl, by (with_reducible repeat (first | apply Kd.R_drewN | apply Kd.R_drew)); exact Kd.R_mono (Kd.R_far (p := ⟨gs + 1, 2, none⟩) (Kd.R_far (p := ⟨gs + 1, 1, none⟩) (Kd.R_far (p := ⟨gs + 1, 0, none⟩) (Kd.R_types HR9.out HV9.out (by decide)) (fun _ hk => hk.2) _) (fun _ hk => hk.2) _) (fun _ hk => hk.2) _) (fun _ hk => trivial), by repeat (first | exact HB9.out | apply pw_below_drewN | apply below_drew | refine below_set ?_ HGE.out)⟩
  ·have d1 : decide (1 + (i : Int) > 1049576) = true := decide_eq_true (by omega)
   have d2 : decide (1049576 < 1 + (i : Int)) = true := decide_eq_true (by omega)
   obtain ⟨jj, hj⟩ : ∃ jj, jdg a0_0 l0_1 1049576 = jj := ⟨_, rfl⟩
   obtain ⟨j1, j2, j3⟩ := jj
   have HJ := Aside0.mk (judge_ask hR (show (1 : Int) ≤ 1049576 by decide) (by decide) A0_1 c0_1 wS (Kd.C_below HC.out HBS.out) HCC.out)
   rw [hj] at HJ
   have hF := HF.out
   unfold gap_Least.f at hF
   rw [HRB.out, if_pos rfl, HGI.out, if_neg hN, hj] at hF
   simp only [Option.some.injEq, Prod.mk.injEq] at hF
   obtain ⟨rfl, rfl, rfl, rfl, rfl⟩ := hF
   clear HF hj hR
   simp only at HJ
   go_wp2_with fail
   clear s0 s1
   refine HJ.out.mono ?_
   rintro e wJ ⟨A2, c2, rfl, hR, hb⟩
   have HBJ := Aside0.mk (below_step HBS.out hb)
   have HVJ := Aside0.mk (blk_below HVS.out hb)
   have HRJ := Aside0.mk (Kd.R_lower hR HBS.out.size)
   clear hR hb HVS HSS
   go_upto_region 7 with fail
   obtain ⟨g9, hg9⟩ : ∃ g9, wJ.heap.size = g9 := ⟨_, rfl⟩
   obtain ⟨W9, hW9⟩ : ∃ W9, W9 = wJ.alloc (.cells #[.bool j1, .int .i64 j2, .slice A2 j3.length c2] 30 (0, 0)) := ⟨_, rfl⟩
   have HB9 : Aside0 (Below w.heap.size w W9) := ⟨by rw [hW9]; exact below_alloc HBJ.out _⟩
   have HV9 : Aside0 (W9.heap[gs + 1]? = some (.cells #[.bool false, .int .i64 0, .slice none 0 0] 30 (0, 0))) := ⟨by rw [hW9]; exact blk_alloc HVJ.out _⟩
   have HG9 : Aside0 (W9.heap[g9]? = some (.cells #[.bool j1, .int .i64 j2, .slice A2 j3.length c2] 30 (0, 0))) := ⟨by rw [hW9, ← hg9]; exact blk_new wJ _⟩
   have HR9 : Aside0 (Kd.R (Kd.int .i64) 3 W9 w.heap.size (fun _ => True) (.slice A2 j3.length c2) j3) := ⟨by rw [hW9]; exact Kd.R_alloc HRJ.out _⟩
   have hne : g9 ≠ gs + 1 := by
    have h1 := blk_lt HVJ.out
    omega
   have hne2 : gs + 1 ≠ g9 := fun e => hne e.symm
   rw [← hW9, hg9]
   clear hW9 hg9 HBJ HVJ HRJ
   have u0 := blk_cell HG9.out 0
   have u1 := blk_cell HG9.out 1
   have u2 := blk_cell HG9.out 2
   have v0 := blk_cell HV9.out 0
   have v1 := blk_cell HV9.out 1
   have v2 := blk_cell HV9.out 2
   have f0 := blk_frozen HV9.out 0
   have f1 := blk_frozen HV9.out 1
   have f2 := blk_frozen HV9.out 2
   go_wp2_with fail
   go_region
   go_wp2_with fail
   have HGE : Aside0 (w.heap.size ≤ gs + 1) := ⟨by have := HGSE.out; omega⟩
   refine bodyPost_ret (results_list (rs := [.tmp 2, .cell 3 30, .tmp 4]) rfl (by simp) (.tmp (.cell (gs + 1) 30 #[.bool j1, .int .i64 j2, .slice A2 j3.length c2] (0, 0) _ rfl (by (with_reducible repeat (first | refine blk_drewN ?_ _ | refine blk_drew ?_)); refine blk_put (cs := #[.bool j1, .int .i64 j2, .slice none 0 0]) ?_ 2 _ rfl; (with_reducible repeat (first | refine blk_drewN ?_ _ | refine blk_drew ?_)); refine blk_put (cs := #[.bool j1, .int .i64 0, .slice none 0 0]) ?_ 1 _ rfl; (with_reducible repeat (first | refine blk_drewN ?_ _ | refine blk_drew ?_)); refine blk_put (cs := #[.bool false, .int .i64 0, .slice none 0 0]) ?_ 0 _ rfl; (with_reducible repeat (first | refine blk_drewN ?_ _ | refine blk_drew ?_)); exact HV9.out) Tryd.underlying30 rfl (by kernel_rfl) (.tmp .nil)))) rfl ?_
   exact ⟨_, rfl, by (with_reducible repeat (first | apply Kd.R_drewN | apply Kd.R_drew)); exact Kd.R_mono (Kd.R_far (p := ⟨gs + 1, 2, none⟩) (Kd.R_far (p := ⟨gs + 1, 1, none⟩) (Kd.R_far (p := ⟨gs + 1, 0, none⟩) (Kd.R_types HR9.out HV9.out (by decide)) (fun _ hk => hk.2) _) (fun _ hk => hk.2) _) (fun _ hk => hk.2) _) (fun _ hk => trivial), by repeat (first | exact HB9.out | apply pw_below_drewN | apply below_drew | refine below_set ?_ HGE.out)⟩
end Go.Proofs.YtefenbhcbpfihaaDoor.Q
