-- TaskOrder: walked by hand (printed by wip/gen05.py).
-- NEEDS pendulum/pendulumref05.Few pendulum/pendulumlaw05.awake pendulum/pendulumref05.Right pendulum/task.Right pendulum/task.Hard pendulum/task.Why
import Derived.Test.YtphppahjkcnjlaaDoorQ0
import Derived.Test.YtphppahjkcnjlaaDoorQ7
import Derived.Test.YtphppahjkcnjlaaDoorQ10
import Derived.Test.YtphppahjkcnjlaaDoorHtaskO
import Derived.Test.YtphppahjkcnjlaaDoorLlawA
import Derived.Test.YtphppahjkcnjlaaDoorLregL
import Derived.Test.YtphppahjkcnjlaaDoorLright
import Derived.Test.YtphppahjkcnjlaaDoorLrow
import Derived.Test.YtphppahjkcnjlaaDoorLsetS
import Derived.Test.YtphppahjkcnjlaaDoorLtask
import Derived.Test.YtphppahjkcnjlaaDoorLlawA
import Derived.Test.YtphppahjkcnjlaaDoorLrow
import Derived.Test.YtphppahjkcnjlaaDoorLright
import Derived.Test.YtphppahjkcnjlaaDoorHtaskP
import Derived.IntWalk
import Derived.Test.YtphppahjkcnjlaaDoorLregL
namespace Go.Proofs.YtphppahjkcnjlaaDoor.Q
open Go.RowKit Go.Proofs.YtphppahjkcnjlaaDoorW.PrintWords Go.Proofs.YtphppahjkcnjlaaDoorW.PrintLast Go.Proofs.YtphppahjkcnjlaaDoorW.PrintMore
attribute [local go_sem] max2_int min2_int max_two min_two max_three min_three max_four min_four   -- for this text's walks alone
set_option linter.unusedVariables false
set_option linter.unusedSimpArgs false

theorem ordN_sorted (ts : List TK) : (ordN ts).Pairwise (fun x y => decide (ts[x].f10 ≤ ts[y].f10) = true) := by
  unfold ordN
  exact List.pairwise_mergeSort (fun a b c h1 h2 => by simp at *; omega) (fun a b => by simp; omega) _
theorem ordN_nodup (ts : List TK) : (ordN ts).Nodup := by
  unfold ordN
  exact (List.mergeSort_perm _ _).nodup_iff.2 (List.nodup_finRange _)
theorem ordN_length (ts : List TK) : (ordN ts).length = ts.length := by unfold ordN; simp
/-- Places by priority: rising. -/
theorem ordN_rise {b : Int} {ts : List TK} (h : RightS b ts) (i j : Nat) (hi : i < (ordN ts).length) (hj : j < (ordN ts).length) (hij : i < j) : (ts[(ordN ts)[i]]).f10 < (ts[(ordN ts)[j]]).f10 := by
  have h1 := List.pairwise_iff_getElem.1 (ordN_sorted ts) i j hi hj hij
  have h2 := List.pairwise_iff_getElem.1 (ordN_nodup ts) i j hi hj hij
  have h3 := (h.apart (ordN ts)[i].val (ordN ts)[j].val (ordN ts)[i].isLt (ordN ts)[j].isLt (fun e => h2 (Fin.ext e))).2
  simp at h1
  have h4 : (ts[(ordN ts)[i]]).f10 ≠ (ts[(ordN ts)[j]]).f10 := h3
  exact Int.lt_iff_le_and_ne.2 ⟨h1, h4⟩
theorem rd_ordF (ts : List TK) (i : Nat) (hi : i < (ordN ts).length) : rd (ordF ts) (i : Int) = ((ordN ts)[i].val : Int) := by
  unfold ordF rd
  simp [List.getD_eq_getElem?_getD, List.getElem?_eq_getElem hi]
theorem rd_task (ts : List TK) (x : Fin ts.length) : rd_T32 ts (x.val : Int) = ts[x] := by
  simp [rd_T32, List.getD_eq_getElem?_getD, List.getElem?_eq_getElem x.isLt]
set_option maxHeartbeats 4000000 in
set_option maxRecDepth 100000 in
theorem TaskOrder_law (b : Int) (A : Option Addr) (c : Nat) (ts : List TK) (W : World) (hC : Kd.C k32 W A ts.length ts) (hc : ts.length ≤ c) (hokt : ∀ t ∈ ts, okTask t) (hbw : (Lit.int .i64 b).wf = true) :
    Calls Tryd.prog 4 #[.agg #[.int .i64 b, .slice A ts.length c]] W fun e w' => e = .returned (.bool true) ∧ Below W.heap.size W w' := by
  have HC := Aside0.mk hC
  have HOK := Aside0.mk hokt
  obtain ⟨W1, hW1⟩ : ∃ W1, W1 = W.alloc (.cells #[.int .i64 b, .slice A ts.length c] 24 (0, 0)) := ⟨_, rfl⟩
  have HB : Aside0 (Below W.heap.size W W1) := ⟨by rw [hW1]; exact below_alloc (Below.refl _ _) _⟩
  obtain ⟨gs, hgs⟩ : ∃ gs, W.heap.size = gs := ⟨_, rfl⟩
  have HK : Aside0 (W1.heap[gs]? = some (.cells #[.int .i64 b, .slice A ts.length c] 24 (0, 0))) := ⟨by rw [hW1, ← hgs]; exact blk_new W _⟩
  have HW1 := Aside0.mk hW1
  have HGS := Aside0.mk hgs
  clear hC hokt hbw hW1
  obtain ⟨fb, hfb⟩ : ∃ fb, fewB ts = fb := ⟨_, rfl⟩
  have HFB := Aside0.mk hfb
  obtain ⟨rb, hrb⟩ : ∃ rb, ((whyS b ts).1 == 0) = rb := ⟨_, rfl⟩
  have HRB := Aside0.mk hrb
  clear hfb hrb
  go_enter Tryd.func4, Tryd.ntmps4
  go_wp2_with fail
  rw [← HW1.out]
  try rw [hgs]
  clear hgs
  refine (pendulumlaw05_awake.calls true _ law05_awake).mono ?_
  rintro e wA ⟨rfl, hb⟩
  have HB1 := Aside0.mk (below_step HB.out hb); have HK1 := Aside0.mk (blk_below HK.out hb); clear HB HK hb; have HB := HB1; have HK := HK1; clear HB1 HK1
  have s0 := blk_cell HK.out 0
  have s1 := blk_cell HK.out 1
  go_wp2_with fail
  refine (pendulumref05_Few.calls 100 b A c ts fb _ (Kd.C_below HC.out HB.out) hc (by rw [few_eq b ts 100 (by omega), HFB.out])).mono ?_
  rintro e wB ⟨rfl, hb⟩
  have HB1 := Aside0.mk (below_step HB.out hb); have HK1 := Aside0.mk (blk_below HK.out hb); clear HB HK hb; have HB := HB1; have HK := HK1; clear HB1 HK1
  clear s0 s1
  cases fb with
  | false =>
    go_wp2_with fail
    refine (pendulumlaw05_awake.calls true _ law05_awake).mono ?_
    rintro e wC ⟨rfl, hb⟩
    have HB1 := Aside0.mk (below_step HB.out hb); have HK1 := Aside0.mk (blk_below HK.out hb); clear HB HK hb; have HB := HB1; have HK := HK1; clear HB1 HK1
    go_wp2_with fail
    go_ret
    exact ⟨rfl, HB.out⟩
  | true =>
    have s0 := blk_cell HK.out 0
    have s1 := blk_cell HK.out 1
    go_wp2_with fail
    refine (pendulumref05_Right.calls b A c ts rb _ (Kd.C_below HC.out HB.out) hc (by rw [right_eq, HRB.out])).mono ?_
    rintro e wC ⟨rfl, hb⟩
    have HB1 := Aside0.mk (below_step HB.out hb); have HK1 := Aside0.mk (blk_below HK.out hb); clear HB HK hb; have HB := HB1; have HK := HK1; clear HB1 HK1
    clear s0 s1
    cases rb with
    | false =>
      go_wp2_with fail
      refine (pendulumlaw05_awake.calls true _ law05_awake).mono ?_
      rintro e wD ⟨rfl, hb⟩
      have HB1 := Aside0.mk (below_step HB.out hb); have HK1 := Aside0.mk (blk_below HK.out hb); clear HB HK hb; have HB := HB1; have HK := HK1; clear HB1 HK1
      go_wp2_with fail
      go_ret
      exact ⟨rfl, HB.out⟩
    | true =>
      have hR : RightS b ts := (rightS_iff b ts).1 (by have := HRB.out; simpa using this)
      have HR := Aside0.mk hR
      have hl1 := hR.n0
      have hl16 := hR.n1
      clear hR
      have s0 := blk_cell HK.out 0
      have s1 := blk_cell HK.out 1
      go_wp2_with fail
      refine (task_Order.calls b A c ts (ordF ts) _ (Kd.C_below HC.out HB.out) hc (by unfold task_Order.f; rw [if_pos ⟨HR.out.nodup, by omega⟩])).mono ?_
      rintro e wD ⟨v0, rfl, hRo, hb⟩
      obtain ⟨A2, c2, rfl, hc2, hC2⟩ := Kd.R_reads hRo
      rw [ordF_length] at hC2 hc2 ⊢
      have HO := Aside0.mk hC2
      have HB1 := Aside0.mk (below_step HB.out hb); have HK1 := Aside0.mk (blk_below HK.out hb); clear HB HK hb; have HB := HB1; have HK := HK1; clear HB1 HK1
      clear hRo hC2 s0 s1
      have s1 := blk_cell HK.out 1
      go_wp2_with fail
      clear s1
      go_loopg [4] ts.length (fun kk v4 wr => ∃ i : Nat, v4 = .int .i64 i ∧ i + kk = ts.length ∧ Aside0 (Below W.heap.size W wr) ∧ Aside0 (wr.heap[gs]? = some (.cells #[.int .i64 b, .slice A ts.length c] 24 (0, 0))) ∧ Aside0 (Kd.C (Kd.int .i64) wr A2 ts.length (ordF ts)))
      case atStart => exact ⟨0, rfl, by omega, HB, HK, HO⟩
      case round =>
        clear HB HK HO
        obtain ⟨i, rfl, hik, HB, HK, HO⟩ := hrel
        by_cases hlt : i < ts.length
        · have hd : decide ((i : Int) < (ts.length : Int)) = true := by simp; omega
          have hil : i < (ordN ts).length := by rw [ordN_length]; exact hlt
          obtain ⟨a2, e2, o1⟩ := Kd.at_int HO.out (i : Int) (by omega) (by omega)
          cases e2
          rw [rd_ordF ts i hil] at o1
          obtain ⟨P, hP⟩ : ∃ P, (ordN ts)[i] = P := ⟨_, rfl⟩
          rw [hP] at o1
          obtain ⟨ad, e, x0, x1, x2, x3, x4, x5, x6, x7, x8, x9, x10⟩ := at_T32 (Kd.C_below HC.out HB.out) (i : Int) (by omega) (by omega)
          cases e
          obtain ⟨ad', e, y0, y1, y2, y3, y4, y5, y6, y7, y8, y9, y10⟩ := at_T32 (Kd.C_below HC.out HB.out) (P.val : Int) (by omega) (by have := P.isLt; omega)
          cases e
          clear y0 y1 y2 y3 y4 y5 y6 y7 y8 y9
          obtain ⟨t, ht⟩ : ∃ t, rd_T32 ts (i : Int) = t := ⟨_, rfl⟩
          rw [rd_task ts P] at y10
          obtain ⟨tp, htp⟩ : ∃ tp, ts[P] = tp := ⟨_, rfl⟩
          rw [htp] at y10
          rw [ht] at x0 x1 x2 x3 x4 x5 x6 x7 x8 x9 x10
          have hpl := P.isLt
          obtain ⟨p, hp⟩ : ∃ p, P.val = p := ⟨_, rfl⟩
          rw [hp] at o1 y10 hpl
          simp only [Int.toNat_natCast] at x0 x1 x2 x3 x4 x5 x6 x7 x8 x9 x10 y10 o1
          have p0 : (0 : Int) ≤ i := by omega
          have p1 : (i : Int) < (ts.length : Int) := by omega
          have q0 : (0 : Int) ≤ p := by omega
          have q1 : (p : Int) < (ts.length : Int) := by omega
          have d2 : decide (ts.length ≤ p) = false := by simp; omega
          by_cases hi0 : i = 0
          · have d3 : decide (0 < i) = false := by simp; omega
            clear hP ht htp hp hil hi0
            have KP : Aside0 (∀ w', Below wr.heap.size wr w' → (fun w' : World => Below wr.heap.size wr w' ∧ w'.cell? ⟨gs, 1, none⟩ = some (.slice (some ad) ts.length c) ∧ w'.cell? (a2.add i) = some (.int .i64 (p : Int)) ∧ w'.cell? ⟨(ad.add (p * 11)).block, (ad.add (p * 11)).off + 10, none⟩ = some (.int .i64 tp.f10) ∧ w'.cell? (ad.add (i * 11)) = some (.string t.f0) ∧ w'.cell? ⟨(ad.add (i * 11)).block, (ad.add (i * 11)).off + 1, none⟩ = some (.int .i64 t.f1) ∧ w'.cell? ⟨(ad.add (i * 11)).block, (ad.add (i * 11)).off + 2, none⟩ = some (.int .i64 t.f2) ∧ w'.cell? ⟨(ad.add (i * 11)).block, (ad.add (i * 11)).off + 3, none⟩ = some (.int .i64 t.f3) ∧ w'.cell? ⟨(ad.add (i * 11)).block, (ad.add (i * 11)).off + 4, none⟩ = some (.int .i64 t.f4) ∧ w'.cell? ⟨(ad.add (i * 11)).block, (ad.add (i * 11)).off + 5, none⟩ = some (.int .i64 t.f5) ∧ w'.cell? ⟨(ad.add (i * 11)).block, (ad.add (i * 11)).off + 6, none⟩ = some (.int .i64 t.f6) ∧ w'.cell? ⟨(ad.add (i * 11)).block, (ad.add (i * 11)).off + 7, none⟩ = some (.int .i64 t.f7) ∧ w'.cell? ⟨(ad.add (i * 11)).block, (ad.add (i * 11)).off + 8, none⟩ = some (.int .i64 t.f8) ∧ w'.cell? ⟨(ad.add (i * 11)).block, (ad.add (i * 11)).off + 9, none⟩ = some (.int .i64 t.f9) ∧ w'.cell? ⟨(ad.add (i * 11)).block, (ad.add (i * 11)).off + 10, none⟩ = some (.int .i64 t.f10)) w') := ⟨fun w' hb => ⟨hb, blk_cell (blk_below HK.out hb) 1, pw_cell_below hb o1, pw_cell_below hb y10, pw_cell_below hb x0, pw_cell_below hb x1, pw_cell_below hb x2, pw_cell_below hb x3, pw_cell_below hb x4, pw_cell_below hb x5, pw_cell_below hb x6, pw_cell_below hb x7, pw_cell_below hb x8, pw_cell_below hb x9, pw_cell_below hb x10⟩⟩
            clear x0 x1 x2 x3 x4 x5 x6 x7 x8 x9 x10 y10 o1
            go_wp2_with fail
            refine wp_region_noPanic ?_
            refine wp_region_late [] (fun w' : World => Below wr.heap.size wr w' ∧ w'.cell? ⟨gs, 1, none⟩ = some (.slice (some ad) ts.length c) ∧ w'.cell? (a2.add i) = some (.int .i64 (p : Int)) ∧ w'.cell? ⟨(ad.add (p * 11)).block, (ad.add (p * 11)).off + 10, none⟩ = some (.int .i64 tp.f10) ∧ w'.cell? (ad.add (i * 11)) = some (.string t.f0) ∧ w'.cell? ⟨(ad.add (i * 11)).block, (ad.add (i * 11)).off + 1, none⟩ = some (.int .i64 t.f1) ∧ w'.cell? ⟨(ad.add (i * 11)).block, (ad.add (i * 11)).off + 2, none⟩ = some (.int .i64 t.f2) ∧ w'.cell? ⟨(ad.add (i * 11)).block, (ad.add (i * 11)).off + 3, none⟩ = some (.int .i64 t.f3) ∧ w'.cell? ⟨(ad.add (i * 11)).block, (ad.add (i * 11)).off + 4, none⟩ = some (.int .i64 t.f4) ∧ w'.cell? ⟨(ad.add (i * 11)).block, (ad.add (i * 11)).off + 5, none⟩ = some (.int .i64 t.f5) ∧ w'.cell? ⟨(ad.add (i * 11)).block, (ad.add (i * 11)).off + 6, none⟩ = some (.int .i64 t.f6) ∧ w'.cell? ⟨(ad.add (i * 11)).block, (ad.add (i * 11)).off + 7, none⟩ = some (.int .i64 t.f7) ∧ w'.cell? ⟨(ad.add (i * 11)).block, (ad.add (i * 11)).off + 8, none⟩ = some (.int .i64 t.f8) ∧ w'.cell? ⟨(ad.add (i * 11)).block, (ad.add (i * 11)).off + 9, none⟩ = some (.int .i64 t.f9) ∧ w'.cell? ⟨(ad.add (i * 11)).block, (ad.add (i * 11)).off + 10, none⟩ = some (.int .i64 t.f10)) (by kernel_rfl) ?_
            have hs0 := KP.out wr.drew (below_drew (Below.refl _ _))
            refine wpL_takeT (i := 0) (v := ?v0q) rfl (by kernel_rfl) (by kernel_rfl) (by kernel_rfl) (by kernel_rfl) (fun _ _ _ h => h) (Or.inl ⟨by rfl, ?hy0q⟩) (fun _ => hs0) ?rest0q
            case hy0q => (intro w hSw; (try dsimp only at hSw); go_simp; (first | done | with_reducible rfl))
            try simp only [Act.put, List.getElem_toArray, List.getElem_cons_zero, List.getElem_cons_succ, List.setIfInBounds_toArray, List.set_cons_zero, List.set_cons_succ]
            refine wpL_takeT (i := 1) (v := ?v1q) rfl (by kernel_rfl) (by kernel_rfl) (by kernel_rfl) (by kernel_rfl) (fun _ _ _ h => h) (Or.inl ⟨by rfl, ?hy1q⟩) (fun _ => hs0) ?rest1q
            case hy1q => (intro w hSw; (try dsimp only at hSw); go_simp; (first | done | with_reducible rfl))
            try simp only [Act.put, List.getElem_toArray, List.getElem_cons_zero, List.getElem_cons_succ, List.setIfInBounds_toArray, List.set_cons_zero, List.set_cons_succ]
            refine wpL_takeT (i := 2) (v := ?v2q) rfl (by kernel_rfl) (by kernel_rfl) (by kernel_rfl) (by kernel_rfl) (fun _ _ _ h => h) (Or.inl ⟨by rfl, ?hy2q⟩) (fun _ => hs0) ?rest2q
            case hy2q => (intro w hSw; (try dsimp only at hSw); go_simp; (first | done | with_reducible rfl))
            try simp only [Act.put, List.getElem_toArray, List.getElem_cons_zero, List.getElem_cons_succ, List.setIfInBounds_toArray, List.set_cons_zero, List.set_cons_succ]
            refine wpL_take (i := 3) (v := ?v3q) rfl (by kernel_rfl) (by kernel_rfl) (by kernel_rfl) (by kernel_rfl) (by kernel_rfl) (by kernel_rfl) (fun _ _ _ h => h) (Or.inl ⟨by rfl, ?hy3q⟩) hs0 ?rest3q
            case hy3q => (intro w hSw; (try dsimp only at hSw); (try obtain ⟨h0, h1, h2, h3, h4, h5, h6, h7, h8, h9, h10, h11, h12, h13, h14⟩ := hSw); go_simp; (first | done | with_reducible rfl))
            try simp only [Act.put, List.getElem_toArray, List.getElem_cons_zero, List.getElem_cons_succ, List.setIfInBounds_toArray, List.set_cons_zero, List.set_cons_succ]
            refine wpL_takeT (i := 4) (v := ?v4q) rfl (by kernel_rfl) (by kernel_rfl) (by kernel_rfl) (by kernel_rfl) (fun _ _ _ h => h) (Or.inl ⟨by rfl, ?hy4q⟩) (fun _ => hs0) ?rest4q
            case hy4q => (intro w hSw; (try dsimp only at hSw); go_simp; (first | done | with_reducible rfl))
            try simp only [Act.put, List.getElem_toArray, List.getElem_cons_zero, List.getElem_cons_succ, List.setIfInBounds_toArray, List.set_cons_zero, List.set_cons_succ]
            refine wpL_takeT (i := 5) (v := ?v5q) rfl (by kernel_rfl) (by kernel_rfl) (by kernel_rfl) (by kernel_rfl) (fun _ _ _ h => h) (Or.inl ⟨by rfl, ?hy5q⟩) (fun _ => hs0) ?rest5q
            case hy5q => (intro w hSw; (try dsimp only at hSw); go_simp; (first | done | with_reducible rfl))
            try simp only [Act.put, List.getElem_toArray, List.getElem_cons_zero, List.getElem_cons_succ, List.setIfInBounds_toArray, List.set_cons_zero, List.set_cons_succ]
            refine wpL_takeT (i := 6) (v := ?v6q) rfl (by kernel_rfl) (by kernel_rfl) (by kernel_rfl) (by kernel_rfl) (fun _ _ _ h => h) (Or.inl ⟨by rfl, ?hy6q⟩) (fun _ => hs0) ?rest6q
            case hy6q => (intro w hSw; (try dsimp only at hSw); go_simp; (first | done | with_reducible rfl))
            try simp only [Act.put, List.getElem_toArray, List.getElem_cons_zero, List.getElem_cons_succ, List.setIfInBounds_toArray, List.set_cons_zero, List.set_cons_succ]
            refine wpL_takeT (i := 7) (v := ?v7q) rfl (by kernel_rfl) (by kernel_rfl) (by kernel_rfl) (by kernel_rfl) (fun _ _ _ h => h) (Or.inl ⟨by rfl, ?hy7q⟩) (fun _ => hs0) ?rest7q
            case hy7q => (intro w hSw; (try dsimp only at hSw); go_simp; (first | done | with_reducible rfl))
            try simp only [Act.put, List.getElem_toArray, List.getElem_cons_zero, List.getElem_cons_succ, List.setIfInBounds_toArray, List.set_cons_zero, List.set_cons_succ]
            refine wpL_takeT (i := 8) (v := ?v8q) rfl (by kernel_rfl) (by kernel_rfl) (by kernel_rfl) (by kernel_rfl) (fun _ _ _ h => h) (Or.inl ⟨by rfl, ?hy8q⟩) (fun _ => hs0) ?rest8q
            case hy8q => (intro w hSw; (try dsimp only at hSw); go_simp; (first | done | with_reducible rfl))
            try simp only [Act.put, List.getElem_toArray, List.getElem_cons_zero, List.getElem_cons_succ, List.setIfInBounds_toArray, List.set_cons_zero, List.set_cons_succ]
            refine wpL_take (i := 9) (v := ?v9q) rfl (by kernel_rfl) (by kernel_rfl) (by kernel_rfl) (by kernel_rfl) (by kernel_rfl) (by kernel_rfl) (fun _ _ _ h => h) (Or.inl ⟨by rfl, ?hy9q⟩) hs0 ?rest9q
            case hy9q => (intro w hSw; (try dsimp only at hSw); (try obtain ⟨h0, h1, h2, h3, h4, h5, h6, h7, h8, h9, h10, h11, h12, h13, h14⟩ := hSw); go_simp; (first | done | with_reducible rfl))
            try simp only [Act.put, List.getElem_toArray, List.getElem_cons_zero, List.getElem_cons_succ, List.setIfInBounds_toArray, List.set_cons_zero, List.set_cons_succ]
            refine wpL_takeT (i := 10) (v := ?v10q) rfl (by kernel_rfl) (by kernel_rfl) (by kernel_rfl) (by kernel_rfl) (fun _ _ _ h => h) (Or.inl ⟨by rfl, ?hy10q⟩) (fun _ => hs0) ?rest10q
            case hy10q => (intro w hSw; (try dsimp only at hSw); go_simp; (first | done | with_reducible rfl))
            try simp only [Act.put, List.getElem_toArray, List.getElem_cons_zero, List.getElem_cons_succ, List.setIfInBounds_toArray, List.set_cons_zero, List.set_cons_succ]
            refine wpL_take (i := 11) (v := ?v11q) rfl (by kernel_rfl) (by kernel_rfl) (by kernel_rfl) (by kernel_rfl) (by kernel_rfl) (by kernel_rfl) (fun _ _ _ h => h) (Or.inl ⟨by rfl, ?hy11q⟩) hs0 ?rest11q
            case hy11q => (intro w hSw; (try dsimp only at hSw); (try obtain ⟨h0, h1, h2, h3, h4, h5, h6, h7, h8, h9, h10, h11, h12, h13, h14⟩ := hSw); go_simp; (first | done | with_reducible rfl))
            try simp only [Act.put, List.getElem_toArray, List.getElem_cons_zero, List.getElem_cons_succ, List.setIfInBounds_toArray, List.set_cons_zero, List.set_cons_succ]
            refine wpL_takeT (i := 12) (v := ?v12q) rfl (by kernel_rfl) (by kernel_rfl) (by kernel_rfl) (by kernel_rfl) (fun _ _ _ h => h) (Or.inl ⟨by rfl, ?hy12q⟩) (fun _ => hs0) ?rest12q
            case hy12q => (intro w hSw; (try dsimp only at hSw); go_simp; (first | done | with_reducible rfl))
            try simp only [Act.put, List.getElem_toArray, List.getElem_cons_zero, List.getElem_cons_succ, List.setIfInBounds_toArray, List.set_cons_zero, List.set_cons_succ]
            refine wpL_takeT (i := 13) (v := ?v13q) rfl (by kernel_rfl) (by kernel_rfl) (by kernel_rfl) (by kernel_rfl) (fun _ _ _ h => h) (Or.inl ⟨by rfl, ?hy13q⟩) (fun _ => hs0) ?rest13q
            case hy13q => (intro w hSw; (try dsimp only at hSw); go_simp; (first | done | with_reducible rfl))
            try simp only [Act.put, List.getElem_toArray, List.getElem_cons_zero, List.getElem_cons_succ, List.setIfInBounds_toArray, List.set_cons_zero, List.set_cons_succ]
            refine wpL_takeT (i := 14) (v := ?v14q) rfl (by kernel_rfl) (by kernel_rfl) (by kernel_rfl) (by kernel_rfl) (fun _ _ _ h => h) (Or.inl ⟨by rfl, ?hy14q⟩) (fun _ => hs0) ?rest14q
            case hy14q => (intro w hSw; (try dsimp only at hSw); go_simp; (first | done | with_reducible rfl))
            try simp only [Act.put, List.getElem_toArray, List.getElem_cons_zero, List.getElem_cons_succ, List.setIfInBounds_toArray, List.set_cons_zero, List.set_cons_succ]
            refine wpL_takeT (i := 15) (v := ?v15q) rfl (by kernel_rfl) (by kernel_rfl) (by kernel_rfl) (by kernel_rfl) (fun _ _ _ h => h) (Or.inl ⟨by rfl, ?hy15q⟩) (fun _ => hs0) ?rest15q
            case hy15q => (intro w hSw; (try dsimp only at hSw); go_simp; (first | done | with_reducible rfl))
            try simp only [Act.put, List.getElem_toArray, List.getElem_cons_zero, List.getElem_cons_succ, List.setIfInBounds_toArray, List.set_cons_zero, List.set_cons_succ]
            refine wpL_takeT (i := 16) (v := ?v16q) rfl (by kernel_rfl) (by kernel_rfl) (by kernel_rfl) (by kernel_rfl) (fun _ _ _ h => h) (Or.inl ⟨by rfl, ?hy16q⟩) (fun _ => hs0) ?rest16q
            case hy16q => (intro w hSw; (try dsimp only at hSw); go_simp; (first | done | with_reducible rfl))
            try simp only [Act.put, List.getElem_toArray, List.getElem_cons_zero, List.getElem_cons_succ, List.setIfInBounds_toArray, List.set_cons_zero, List.set_cons_succ]
            refine wpL_takeT (i := 17) (v := ?v17q) rfl (by kernel_rfl) (by kernel_rfl) (by kernel_rfl) (by kernel_rfl) (fun _ _ _ h => h) (Or.inl ⟨by rfl, ?hy17q⟩) (fun _ => hs0) ?rest17q
            case hy17q => (intro w hSw; (try dsimp only at hSw); go_simp; (first | done | with_reducible rfl))
            try simp only [Act.put, List.getElem_toArray, List.getElem_cons_zero, List.getElem_cons_succ, List.setIfInBounds_toArray, List.set_cons_zero, List.set_cons_succ]
            refine wpL_takeT (i := 18) (v := ?v18q) rfl (by kernel_rfl) (by kernel_rfl) (by kernel_rfl) (by kernel_rfl) (fun _ _ _ h => h) (Or.inl ⟨by rfl, ?hy18q⟩) (fun _ => hs0) ?rest18q
            case hy18q => (intro w hSw; (try dsimp only at hSw); go_simp; (first | done | with_reducible rfl))
            try simp only [Act.put, List.getElem_toArray, List.getElem_cons_zero, List.getElem_cons_succ, List.setIfInBounds_toArray, List.set_cons_zero, List.set_cons_succ]
            refine wpL_takeT (i := 19) (v := undef) rfl (by kernel_rfl) (by kernel_rfl) (by kernel_rfl) (by kernel_rfl) (fun _ _ _ h => h) (Or.inr ⟨by rfl, rfl⟩) (fun _ => hs0) ?rest19q
            try simp only [Act.put, List.getElem_toArray, List.getElem_cons_zero, List.getElem_cons_succ, List.setIfInBounds_toArray, List.set_cons_zero, List.set_cons_succ]
            refine wpL_takeT (i := 20) (v := undef) rfl (by kernel_rfl) (by kernel_rfl) (by kernel_rfl) (by kernel_rfl) (fun _ _ _ h => h) (Or.inr ⟨by rfl, rfl⟩) (fun _ => hs0) ?rest20q
            try simp only [Act.put, List.getElem_toArray, List.getElem_cons_zero, List.getElem_cons_succ, List.setIfInBounds_toArray, List.set_cons_zero, List.set_cons_succ]
            refine wpL_takeT (i := 21) (v := undef) rfl (by kernel_rfl) (by kernel_rfl) (by kernel_rfl) (by kernel_rfl) (fun _ _ _ h => h) (Or.inr ⟨by rfl, rfl⟩) (fun _ => hs0) ?rest21q
            try simp only [Act.put, List.getElem_toArray, List.getElem_cons_zero, List.getElem_cons_succ, List.setIfInBounds_toArray, List.set_cons_zero, List.set_cons_succ]
            refine wpL_takeT (i := 22) (v := undef) rfl (by kernel_rfl) (by kernel_rfl) (by kernel_rfl) (by kernel_rfl) (fun _ _ _ h => h) (Or.inr ⟨by rfl, rfl⟩) (fun _ => hs0) ?rest22q
            try simp only [Act.put, List.getElem_toArray, List.getElem_cons_zero, List.getElem_cons_succ, List.setIfInBounds_toArray, List.set_cons_zero, List.set_cons_succ]
            refine wpL_takeT (i := 23) (v := undef) rfl (by kernel_rfl) (by kernel_rfl) (by kernel_rfl) (by kernel_rfl) (fun _ _ _ h => h) (Or.inr ⟨by rfl, rfl⟩) (fun _ => hs0) ?rest23q
            try simp only [Act.put, List.getElem_toArray, List.getElem_cons_zero, List.getElem_cons_succ, List.setIfInBounds_toArray, List.set_cons_zero, List.set_cons_succ]
            refine wpL_takeT (i := 24) (v := undef) rfl (by kernel_rfl) (by kernel_rfl) (by kernel_rfl) (by kernel_rfl) (fun _ _ _ h => h) (Or.inr ⟨by rfl, rfl⟩) (fun _ => hs0) ?rest24q
            try simp only [Act.put, List.getElem_toArray, List.getElem_cons_zero, List.getElem_cons_succ, List.setIfInBounds_toArray, List.set_cons_zero, List.set_cons_succ]
            refine wpL_takeT (i := 25) (v := undef) rfl (by kernel_rfl) (by kernel_rfl) (by kernel_rfl) (by kernel_rfl) (fun _ _ _ h => h) (Or.inr ⟨by rfl, rfl⟩) (fun _ => hs0) ?rest25q
            try simp only [Act.put, List.getElem_toArray, List.getElem_cons_zero, List.getElem_cons_succ, List.setIfInBounds_toArray, List.set_cons_zero, List.set_cons_succ]
            refine wpL_takeT (i := 26) (v := undef) rfl (by kernel_rfl) (by kernel_rfl) (by kernel_rfl) (by kernel_rfl) (fun _ _ _ h => h) (Or.inr ⟨by rfl, rfl⟩) (fun _ => hs0) ?rest26q
            try simp only [Act.put, List.getElem_toArray, List.getElem_cons_zero, List.getElem_cons_succ, List.setIfInBounds_toArray, List.set_cons_zero, List.set_cons_succ]
            refine wpL_takeT (i := 27) (v := undef) rfl (by kernel_rfl) (by kernel_rfl) (by kernel_rfl) (by kernel_rfl) (fun _ _ _ h => h) (Or.inr ⟨by rfl, rfl⟩) (fun _ => hs0) ?rest27q
            try simp only [Act.put, List.getElem_toArray, List.getElem_cons_zero, List.getElem_cons_succ, List.setIfInBounds_toArray, List.set_cons_zero, List.set_cons_succ]
            refine wpL_takeT (i := 28) (v := undef) rfl (by kernel_rfl) (by kernel_rfl) (by kernel_rfl) (by kernel_rfl) (fun _ _ _ h => h) (Or.inr ⟨by rfl, rfl⟩) (fun _ => hs0) ?rest28q
            try simp only [Act.put, List.getElem_toArray, List.getElem_cons_zero, List.getElem_cons_succ, List.setIfInBounds_toArray, List.set_cons_zero, List.set_cons_succ]
            refine wpL_takeT (i := 29) (v := undef) rfl (by kernel_rfl) (by kernel_rfl) (by kernel_rfl) (by kernel_rfl) (fun _ _ _ h => h) (Or.inr ⟨by rfl, rfl⟩) (fun _ => hs0) ?rest29q
            try simp only [Act.put, List.getElem_toArray, List.getElem_cons_zero, List.getElem_cons_succ, List.setIfInBounds_toArray, List.set_cons_zero, List.set_cons_succ]
            refine wpL_takeT (i := 30) (v := undef) rfl (by kernel_rfl) (by kernel_rfl) (by kernel_rfl) (by kernel_rfl) (fun _ _ _ h => h) (Or.inr ⟨by rfl, rfl⟩) (fun _ => hs0) ?rest30q
            try simp only [Act.put, List.getElem_toArray, List.getElem_cons_zero, List.getElem_cons_succ, List.setIfInBounds_toArray, List.set_cons_zero, List.set_cons_succ]
            refine wpL_takeT (i := 31) (v := undef) rfl (by kernel_rfl) (by kernel_rfl) (by kernel_rfl) (by kernel_rfl) (fun _ _ _ h => h) (Or.inr ⟨by rfl, rfl⟩) (fun _ => hs0) ?rest31q
            try simp only [Act.put, List.getElem_toArray, List.getElem_cons_zero, List.getElem_cons_succ, List.setIfInBounds_toArray, List.set_cons_zero, List.set_cons_succ]
            refine wpL_takeT (i := 32) (v := undef) rfl (by kernel_rfl) (by kernel_rfl) (by kernel_rfl) (by kernel_rfl) (fun _ _ _ h => h) (Or.inr ⟨by rfl, rfl⟩) (fun _ => hs0) ?rest32q
            try simp only [Act.put, List.getElem_toArray, List.getElem_cons_zero, List.getElem_cons_succ, List.setIfInBounds_toArray, List.set_cons_zero, List.set_cons_succ]
            refine wpL_takeT (i := 33) (v := undef) rfl (by kernel_rfl) (by kernel_rfl) (by kernel_rfl) (by kernel_rfl) (fun _ _ _ h => h) (Or.inr ⟨by rfl, rfl⟩) (fun _ => hs0) ?rest33q
            try simp only [Act.put, List.getElem_toArray, List.getElem_cons_zero, List.getElem_cons_succ, List.setIfInBounds_toArray, List.set_cons_zero, List.set_cons_succ]
            refine wpL_takeT (i := 34) (v := undef) rfl (by kernel_rfl) (by kernel_rfl) (by kernel_rfl) (by kernel_rfl) (fun _ _ _ h => h) (Or.inr ⟨by rfl, rfl⟩) (fun _ => hs0) ?rest34q
            try simp only [Act.put, List.getElem_toArray, List.getElem_cons_zero, List.getElem_cons_succ, List.setIfInBounds_toArray, List.set_cons_zero, List.set_cons_succ]
            refine wpL_takeT (i := 35) (v := undef) rfl (by kernel_rfl) (by kernel_rfl) (by kernel_rfl) (by kernel_rfl) (fun _ _ _ h => h) (Or.inr ⟨by rfl, rfl⟩) (fun _ => hs0) ?rest35q
            try simp only [Act.put, List.getElem_toArray, List.getElem_cons_zero, List.getElem_cons_succ, List.setIfInBounds_toArray, List.set_cons_zero, List.set_cons_succ]
            refine wpL_takeT (i := 36) (v := undef) rfl (by kernel_rfl) (by kernel_rfl) (by kernel_rfl) (by kernel_rfl) (fun _ _ _ h => h) (Or.inr ⟨by rfl, rfl⟩) (fun _ => hs0) ?rest36q
            try simp only [Act.put, List.getElem_toArray, List.getElem_cons_zero, List.getElem_cons_succ, List.setIfInBounds_toArray, List.set_cons_zero, List.set_cons_succ]
            refine wpL_takeT (i := 37) (v := undef) rfl (by kernel_rfl) (by kernel_rfl) (by kernel_rfl) (by kernel_rfl) (fun _ _ _ h => h) (Or.inr ⟨by rfl, rfl⟩) (fun _ => hs0) ?rest37q
            try simp only [Act.put, List.getElem_toArray, List.getElem_cons_zero, List.getElem_cons_succ, List.setIfInBounds_toArray, List.set_cons_zero, List.set_cons_succ]
            refine wpL_takeT (i := 38) (v := undef) rfl (by kernel_rfl) (by kernel_rfl) (by kernel_rfl) (by kernel_rfl) (fun _ _ _ h => h) (Or.inr ⟨by rfl, rfl⟩) (fun _ => hs0) ?rest38q
            try simp only [Act.put, List.getElem_toArray, List.getElem_cons_zero, List.getElem_cons_succ, List.setIfInBounds_toArray, List.set_cons_zero, List.set_cons_succ]
            refine wpL_takeT (i := 39) (v := ?v39q) rfl (by kernel_rfl) (by kernel_rfl) (by kernel_rfl) (by kernel_rfl) (fun _ _ _ h => h) (Or.inl ⟨by rfl, ?hy39q⟩) (fun _ => hs0) ?rest39q
            case hy39q => (intro w hSw; (try dsimp only at hSw); go_simp; (first | done | with_reducible rfl))
            try simp only [Act.put, List.getElem_toArray, List.getElem_cons_zero, List.getElem_cons_succ, List.setIfInBounds_toArray, List.set_cons_zero, List.set_cons_succ]
            refine wpL_takeT (i := 40) (v := ?v40q) rfl (by kernel_rfl) (by kernel_rfl) (by kernel_rfl) (by kernel_rfl) (fun _ _ _ h => h) (Or.inl ⟨by rfl, ?hy40q⟩) (fun _ => hs0) ?rest40q
            case hy40q => (intro w hSw; (try dsimp only at hSw); go_simp; (first | done | with_reducible rfl))
            try simp only [Act.put, List.getElem_toArray, List.getElem_cons_zero, List.getElem_cons_succ, List.setIfInBounds_toArray, List.set_cons_zero, List.set_cons_succ]
            refine wpL_takeT (i := 41) (v := ?v41q) rfl (by kernel_rfl) (by kernel_rfl) (by kernel_rfl) (by kernel_rfl) (fun _ _ _ h => h) (Or.inl ⟨by rfl, ?hy41q⟩) (fun _ => hs0) ?rest41q
            case hy41q => (intro w hSw; (try dsimp only at hSw); go_simp; (first | done | with_reducible rfl))
            try simp only [Act.put, List.getElem_toArray, List.getElem_cons_zero, List.getElem_cons_succ, List.setIfInBounds_toArray, List.set_cons_zero, List.set_cons_succ]
            refine wpL_takeT (i := 42) (v := ?v42q) rfl (by kernel_rfl) (by kernel_rfl) (by kernel_rfl) (by kernel_rfl) (fun _ _ _ h => h) (Or.inl ⟨by rfl, ?hy42q⟩) (fun _ => hs0) ?rest42q
            case hy42q => (intro w hSw; (try dsimp only at hSw); go_simp; (first | done | with_reducible rfl))
            try simp only [Act.put, List.getElem_toArray, List.getElem_cons_zero, List.getElem_cons_succ, List.setIfInBounds_toArray, List.set_cons_zero, List.set_cons_succ]
            refine wpL_take (i := 43) (v := ?v43q) rfl (by kernel_rfl) (by kernel_rfl) (by kernel_rfl) (by kernel_rfl) (by kernel_rfl) (by kernel_rfl) (fun _ _ _ h => h) (Or.inl ⟨by rfl, ?hy43q⟩) hs0 ?rest43q
            case hy43q => (intro w hSw; (try dsimp only at hSw); (try obtain ⟨h0, h1, h2, h3, h4, h5, h6, h7, h8, h9, h10, h11, h12, h13, h14⟩ := hSw); go_simp; (first | done | with_reducible rfl))
            try simp only [Act.put, List.getElem_toArray, List.getElem_cons_zero, List.getElem_cons_succ, List.setIfInBounds_toArray, List.set_cons_zero, List.set_cons_succ]
            refine wpL_takeT (i := 44) (v := ?v44q) rfl (by kernel_rfl) (by kernel_rfl) (by kernel_rfl) (by kernel_rfl) (fun _ _ _ h => h) (Or.inl ⟨by rfl, ?hy44q⟩) (fun _ => hs0) ?rest44q
            case hy44q => (intro w hSw; (try dsimp only at hSw); go_simp; (first | done | with_reducible rfl))
            try simp only [Act.put, List.getElem_toArray, List.getElem_cons_zero, List.getElem_cons_succ, List.setIfInBounds_toArray, List.set_cons_zero, List.set_cons_succ]
            refine wpL_takeT (i := 45) (v := ?v45q) rfl (by kernel_rfl) (by kernel_rfl) (by kernel_rfl) (by kernel_rfl) (fun _ _ _ h => h) (Or.inl ⟨by rfl, ?hy45q⟩) (fun _ => hs0) ?rest45q
            case hy45q => (intro w hSw; (try dsimp only at hSw); go_simp; (first | done | with_reducible rfl))
            try simp only [Act.put, List.getElem_toArray, List.getElem_cons_zero, List.getElem_cons_succ, List.setIfInBounds_toArray, List.set_cons_zero, List.set_cons_succ]
            refine wpL_take (i := 46) (v := ?v46q) rfl (by kernel_rfl) (by kernel_rfl) (by kernel_rfl) (by kernel_rfl) (by kernel_rfl) (by kernel_rfl) (fun _ _ _ h => h) (Or.inl ⟨by rfl, ?hy46q⟩) hs0 ?rest46q
            case hy46q => (intro w hSw; (try dsimp only at hSw); (try obtain ⟨h0, h1, h2, h3, h4, h5, h6, h7, h8, h9, h10, h11, h12, h13, h14⟩ := hSw); go_simp; (first | done | with_reducible rfl))
            try simp only [Act.put, List.getElem_toArray, List.getElem_cons_zero, List.getElem_cons_succ, List.setIfInBounds_toArray, List.set_cons_zero, List.set_cons_succ]
            refine wpL_takeT (i := 48) (v := ?v48q) rfl (by kernel_rfl) (by kernel_rfl) (by kernel_rfl) (by kernel_rfl) (fun _ _ _ h => h) (Or.inl ⟨by rfl, ?hy48q⟩) (fun _ => hs0) ?rest48q
            case hy48q => (intro w hSw; (try dsimp only at hSw); go_simp; (first | done | with_reducible rfl))
            try simp only [Act.put, List.getElem_toArray, List.getElem_cons_zero, List.getElem_cons_succ, List.setIfInBounds_toArray, List.set_cons_zero, List.set_cons_succ]
            refine wpL_take (i := 49) (v := ?v49q) rfl (by kernel_rfl) (by kernel_rfl) (by kernel_rfl) (by kernel_rfl) (by kernel_rfl) (by kernel_rfl) (fun _ _ _ h => h) (Or.inl ⟨by rfl, ?hy49q⟩) hs0 ?rest49q
            case hy49q => (intro w hSw; (try dsimp only at hSw); (try obtain ⟨h0, h1, h2, h3, h4, h5, h6, h7, h8, h9, h10, h11, h12, h13, h14⟩ := hSw); go_simp; (first | done | with_reducible rfl))
            try simp only [Act.put, List.getElem_toArray, List.getElem_cons_zero, List.getElem_cons_succ, List.setIfInBounds_toArray, List.set_cons_zero, List.set_cons_succ]
            refine wpL_takeT (i := 50) (v := ?v50q) rfl (by kernel_rfl) (by kernel_rfl) (by kernel_rfl) (by kernel_rfl) (fun _ _ _ h => h) (Or.inl ⟨by rfl, ?hy50q⟩) (fun _ => hs0) ?rest50q
            case hy50q => (intro w hSw; (try dsimp only at hSw); go_simp; (first | done | with_reducible rfl))
            try simp only [Act.put, List.getElem_toArray, List.getElem_cons_zero, List.getElem_cons_succ, List.setIfInBounds_toArray, List.set_cons_zero, List.set_cons_succ]
            refine wpL_takeT (i := 51) (v := ?v51q) rfl (by kernel_rfl) (by kernel_rfl) (by kernel_rfl) (by kernel_rfl) (fun _ _ _ h => h) (Or.inl ⟨by rfl, ?hy51q⟩) (fun _ => hs0) ?rest51q
            case hy51q => (intro w hSw; (try dsimp only at hSw); go_simp; (first | done | with_reducible rfl))
            try simp only [Act.put, List.getElem_toArray, List.getElem_cons_zero, List.getElem_cons_succ, List.setIfInBounds_toArray, List.set_cons_zero, List.set_cons_succ]
            refine wpL_takeT (i := 52) (v := ?v52q) rfl (by kernel_rfl) (by kernel_rfl) (by kernel_rfl) (by kernel_rfl) (fun _ _ _ h => h) (Or.inl ⟨by rfl, ?hy52q⟩) (fun _ => hs0) ?rest52q
            case hy52q => (intro w hSw; (try dsimp only at hSw); go_simp; (first | done | with_reducible rfl))
            try simp only [Act.put, List.getElem_toArray, List.getElem_cons_zero, List.getElem_cons_succ, List.setIfInBounds_toArray, List.set_cons_zero, List.set_cons_succ]
            refine wpL_take (i := 53) (v := ?v53q) rfl (by kernel_rfl) (by kernel_rfl) (by kernel_rfl) (by kernel_rfl) (by kernel_rfl) (by kernel_rfl) (fun _ _ _ h => h) (Or.inl ⟨by rfl, ?hy53q⟩) hs0 ?rest53q
            case hy53q => (intro w hSw; (try dsimp only at hSw); (try obtain ⟨h0, h1, h2, h3, h4, h5, h6, h7, h8, h9, h10, h11, h12, h13, h14⟩ := hSw); go_simp; (first | done | with_reducible rfl))
            try simp only [Act.put, List.getElem_toArray, List.getElem_cons_zero, List.getElem_cons_succ, List.setIfInBounds_toArray, List.set_cons_zero, List.set_cons_succ]
            refine wpL_takeT (i := 54) (v := ?v54q) rfl (by kernel_rfl) (by kernel_rfl) (by kernel_rfl) (by kernel_rfl) (fun _ _ _ h => h) (Or.inl ⟨by rfl, ?hy54q⟩) (fun _ => hs0) ?rest54q
            case hy54q => (intro w hSw; (try dsimp only at hSw); go_simp; (first | done | with_reducible rfl))
            try simp only [Act.put, List.getElem_toArray, List.getElem_cons_zero, List.getElem_cons_succ, List.setIfInBounds_toArray, List.set_cons_zero, List.set_cons_succ]
            refine wpL_take (i := 55) (v := ?v55q) rfl (by kernel_rfl) (by kernel_rfl) (by kernel_rfl) (by kernel_rfl) (by kernel_rfl) (by kernel_rfl) (fun _ _ _ h => h) (Or.inl ⟨by rfl, ?hy55q⟩) hs0 ?rest55q
            case hy55q => (intro w hSw; (try dsimp only at hSw); (try obtain ⟨h0, h1, h2, h3, h4, h5, h6, h7, h8, h9, h10, h11, h12, h13, h14⟩ := hSw); go_simp; (first | done | with_reducible rfl))
            try simp only [Act.put, List.getElem_toArray, List.getElem_cons_zero, List.getElem_cons_succ, List.setIfInBounds_toArray, List.set_cons_zero, List.set_cons_succ]
            refine wpL_takeT (i := 56) (v := ?v56q) rfl (by kernel_rfl) (by kernel_rfl) (by kernel_rfl) (by kernel_rfl) (fun _ _ _ h => h) (Or.inl ⟨by rfl, ?hy56q⟩) (fun _ => hs0) ?rest56q
            case hy56q => (intro w hSw; (try dsimp only at hSw); go_simp; (first | done | with_reducible rfl))
            try simp only [Act.put, List.getElem_toArray, List.getElem_cons_zero, List.getElem_cons_succ, List.setIfInBounds_toArray, List.set_cons_zero, List.set_cons_succ]
            refine wpL_takeT (i := 57) (v := ?v57q) rfl (by kernel_rfl) (by kernel_rfl) (by kernel_rfl) (by kernel_rfl) (fun _ _ _ h => h) (Or.inl ⟨by rfl, ?hy57q⟩) (fun _ => hs0) ?rest57q
            case hy57q => (intro w hSw; (try dsimp only at hSw); go_simp; (first | done | with_reducible rfl))
            try simp only [Act.put, List.getElem_toArray, List.getElem_cons_zero, List.getElem_cons_succ, List.setIfInBounds_toArray, List.set_cons_zero, List.set_cons_succ]
            refine wpL_takeT (i := 58) (v := ?v58q) rfl (by kernel_rfl) (by kernel_rfl) (by kernel_rfl) (by kernel_rfl) (fun _ _ _ h => h) (Or.inl ⟨by rfl, ?hy58q⟩) (fun _ => hs0) ?rest58q
            case hy58q => (intro w hSw; (try dsimp only at hSw); go_simp; (first | done | with_reducible rfl))
            try simp only [Act.put, List.getElem_toArray, List.getElem_cons_zero, List.getElem_cons_succ, List.setIfInBounds_toArray, List.set_cons_zero, List.set_cons_succ]
            refine wpL_take (i := 59) (v := ?v59q) rfl (by kernel_rfl) (by kernel_rfl) (by kernel_rfl) (by kernel_rfl) (by kernel_rfl) (by kernel_rfl) (fun _ _ _ h => h) (Or.inl ⟨by rfl, ?hy59q⟩) hs0 ?rest59q
            case hy59q => (intro w hSw; (try dsimp only at hSw); (try obtain ⟨h0, h1, h2, h3, h4, h5, h6, h7, h8, h9, h10, h11, h12, h13, h14⟩ := hSw); go_simp; (first | done | with_reducible rfl))
            try simp only [Act.put, List.getElem_toArray, List.getElem_cons_zero, List.getElem_cons_succ, List.setIfInBounds_toArray, List.set_cons_zero, List.set_cons_succ]
            refine wpL_takeT (i := 60) (v := ?v60q) rfl (by kernel_rfl) (by kernel_rfl) (by kernel_rfl) (by kernel_rfl) (fun _ _ _ h => h) (Or.inl ⟨by rfl, ?hy60q⟩) (fun _ => hs0) ?rest60q
            case hy60q => (intro w hSw; (try dsimp only at hSw); go_simp; (first | done | with_reducible rfl))
            try simp only [Act.put, List.getElem_toArray, List.getElem_cons_zero, List.getElem_cons_succ, List.setIfInBounds_toArray, List.set_cons_zero, List.set_cons_succ]
            refine wpL_ready (rs := [47]) (by kernel_rfl) (by simp) (AllL.cons rfl (fun K hK => ?_) AllL.nil)
            have hs0' := hs0
            clear hs0
            go_simp
            have hcall := task_Hard.calls t.f0 t.f1 t.f2 t.f3 t.f4 t.f5 t.f6 t.f7 t.f8 t.f9 t.f10 (t.f7 == t.f8) wr.drew rfl
            refine hcall.mono ?_
            rintro e wZ ⟨rfl, hb⟩
            have hbz : Below wr.heap.size wr wZ := below_step (below_drew (Below.refl _ _)) hb
            have HBB := Aside0.mk hbz
            have hs2 := KP.out wZ hbz
            clear hcall hb hbz
            go_wp2_with fail
            refine hK.out _ _ hs2 ?_
            clear hK K
            try simp only [Act.put, List.getElem_toArray, List.getElem_cons_zero, List.getElem_cons_succ, List.setIfInBounds_toArray, List.set_cons_zero, List.set_cons_succ]
            refine wpL_ready (rs := [61]) (by kernel_rfl) (by simp) (AllL.cons rfl (fun K hK => ?_) AllL.nil)
            go_simp
            refine hK.out _ _ hs2 ?_
            clear hK K
            try simp only [Act.put, List.getElem_toArray, List.getElem_cons_zero, List.getElem_cons_succ, List.setIfInBounds_toArray, List.set_cons_zero, List.set_cons_succ]
            refine wpL_ready (rs := [62]) (by kernel_rfl) (by simp) (AllL.cons rfl (fun K hK => ?_) AllL.nil)
            go_simp
            refine hK.out _ _ hs2 ?_
            clear hK K
            try simp only [Act.put, List.getElem_toArray, List.getElem_cons_zero, List.getElem_cons_succ, List.setIfInBounds_toArray, List.set_cons_zero, List.set_cons_succ]
            refine wpL_done (by kernel_rfl) (NoPanic.normal ?_) _
            have HB2 := Aside0.mk (below_step HB.out HBB.out)
            have HK2 := Aside0.mk (blk_below HK.out HBB.out)
            have HO2 := Aside0.mk (Kd.C_below HO.out HBB.out)
            clear hs2 hs0' KP
            go_wp2_with fail
            go_roundg (ts.length - (i + 1))
            case measure => omega
            case rel => exact ⟨i + 1, by first | rfl | simp, by omega, HB2, HK2, HO2⟩
          · have d3 : decide (0 < i) = true := by simp; omega
            have hil2 : i - 1 < (ordN ts).length := by omega
            obtain ⟨a3, e2, o2⟩ := Kd.at_int HO.out ((i - 1 : Nat) : Int) (by omega) (by omega)
            cases e2
            rw [rd_ordF ts (i - 1) hil2] at o2
            have hrise := ordN_rise HR.out (i - 1) i hil2 hil (by omega)
            obtain ⟨Q, hQ⟩ : ∃ Q, (ordN ts)[i - 1] = Q := ⟨_, rfl⟩
            rw [hQ] at o2
            simp only [hP, hQ, htp] at hrise
            obtain ⟨ad', e, z0, z1, z2, z3, z4, z5, z6, z7, z8, z9, z10⟩ := at_T32 (Kd.C_below HC.out HB.out) (Q.val : Int) (by omega) (by have := Q.isLt; omega)
            cases e
            clear z0 z1 z2 z3 z4 z5 z6 z7 z8 z9
            rw [rd_task ts Q] at z10
            obtain ⟨tq, htq⟩ : ∃ tq, ts[Q] = tq := ⟨_, rfl⟩
            rw [htq] at z10
            simp only [htq] at hrise
            have hql := Q.isLt
            obtain ⟨q, hq⟩ : ∃ q, Q.val = q := ⟨_, rfl⟩
            rw [hq] at o2 z10 hql
            simp only [Int.toNat_natCast] at z10 o2
            have d4 : decide (tp.f10 ≤ tq.f10) = false := by simp; omega
            have r0 : (0 : Int) ≤ q := by omega
            have r1 : (q : Int) < (ts.length : Int) := by omega
            have w0 : IntKind.i64.wrap ((i : Int) - 1) = ((i - 1 : Nat) : Int) := by rw [IntWalk.i64_in _ (by omega)]; omega
            have w1 : (0 : Int) ≤ ((i - 1 : Nat) : Int) := by omega
            have w2 : ((i - 1 : Nat) : Int) < (ts.length : Int) := by omega
            have w3 : (((i - 1 : Nat) : Int)).toNat = i - 1 := by omega
            clear hP ht htp hp hil hi0 hQ htq hq hil2 hrise
            have KP : Aside0 (∀ w', Below wr.heap.size wr w' → (fun w' : World => Below wr.heap.size wr w' ∧ w'.cell? ⟨gs, 1, none⟩ = some (.slice (some ad) ts.length c) ∧ w'.cell? (a2.add i) = some (.int .i64 (p : Int)) ∧ w'.cell? ⟨(ad.add (p * 11)).block, (ad.add (p * 11)).off + 10, none⟩ = some (.int .i64 tp.f10) ∧ w'.cell? (ad.add (i * 11)) = some (.string t.f0) ∧ w'.cell? ⟨(ad.add (i * 11)).block, (ad.add (i * 11)).off + 1, none⟩ = some (.int .i64 t.f1) ∧ w'.cell? ⟨(ad.add (i * 11)).block, (ad.add (i * 11)).off + 2, none⟩ = some (.int .i64 t.f2) ∧ w'.cell? ⟨(ad.add (i * 11)).block, (ad.add (i * 11)).off + 3, none⟩ = some (.int .i64 t.f3) ∧ w'.cell? ⟨(ad.add (i * 11)).block, (ad.add (i * 11)).off + 4, none⟩ = some (.int .i64 t.f4) ∧ w'.cell? ⟨(ad.add (i * 11)).block, (ad.add (i * 11)).off + 5, none⟩ = some (.int .i64 t.f5) ∧ w'.cell? ⟨(ad.add (i * 11)).block, (ad.add (i * 11)).off + 6, none⟩ = some (.int .i64 t.f6) ∧ w'.cell? ⟨(ad.add (i * 11)).block, (ad.add (i * 11)).off + 7, none⟩ = some (.int .i64 t.f7) ∧ w'.cell? ⟨(ad.add (i * 11)).block, (ad.add (i * 11)).off + 8, none⟩ = some (.int .i64 t.f8) ∧ w'.cell? ⟨(ad.add (i * 11)).block, (ad.add (i * 11)).off + 9, none⟩ = some (.int .i64 t.f9) ∧ w'.cell? ⟨(ad.add (i * 11)).block, (ad.add (i * 11)).off + 10, none⟩ = some (.int .i64 t.f10) ∧ w'.cell? (a2.add (i - 1)) = some (.int .i64 (q : Int)) ∧ w'.cell? ⟨(ad.add (q * 11)).block, (ad.add (q * 11)).off + 10, none⟩ = some (.int .i64 tq.f10)) w') := ⟨fun w' hb => ⟨hb, blk_cell (blk_below HK.out hb) 1, pw_cell_below hb o1, pw_cell_below hb y10, pw_cell_below hb x0, pw_cell_below hb x1, pw_cell_below hb x2, pw_cell_below hb x3, pw_cell_below hb x4, pw_cell_below hb x5, pw_cell_below hb x6, pw_cell_below hb x7, pw_cell_below hb x8, pw_cell_below hb x9, pw_cell_below hb x10, pw_cell_below hb o2, pw_cell_below hb z10⟩⟩
            clear x0 x1 x2 x3 x4 x5 x6 x7 x8 x9 x10 y10 o1 z10 o2
            go_wp2_with fail
            go_region_held3 (fun w' : World => Below wr.heap.size wr w' ∧ w'.cell? ⟨gs, 1, none⟩ = some (.slice (some ad) ts.length c) ∧ w'.cell? (a2.add i) = some (.int .i64 (p : Int)) ∧ w'.cell? ⟨(ad.add (p * 11)).block, (ad.add (p * 11)).off + 10, none⟩ = some (.int .i64 tp.f10) ∧ w'.cell? (ad.add (i * 11)) = some (.string t.f0) ∧ w'.cell? ⟨(ad.add (i * 11)).block, (ad.add (i * 11)).off + 1, none⟩ = some (.int .i64 t.f1) ∧ w'.cell? ⟨(ad.add (i * 11)).block, (ad.add (i * 11)).off + 2, none⟩ = some (.int .i64 t.f2) ∧ w'.cell? ⟨(ad.add (i * 11)).block, (ad.add (i * 11)).off + 3, none⟩ = some (.int .i64 t.f3) ∧ w'.cell? ⟨(ad.add (i * 11)).block, (ad.add (i * 11)).off + 4, none⟩ = some (.int .i64 t.f4) ∧ w'.cell? ⟨(ad.add (i * 11)).block, (ad.add (i * 11)).off + 5, none⟩ = some (.int .i64 t.f5) ∧ w'.cell? ⟨(ad.add (i * 11)).block, (ad.add (i * 11)).off + 6, none⟩ = some (.int .i64 t.f6) ∧ w'.cell? ⟨(ad.add (i * 11)).block, (ad.add (i * 11)).off + 7, none⟩ = some (.int .i64 t.f7) ∧ w'.cell? ⟨(ad.add (i * 11)).block, (ad.add (i * 11)).off + 8, none⟩ = some (.int .i64 t.f8) ∧ w'.cell? ⟨(ad.add (i * 11)).block, (ad.add (i * 11)).off + 9, none⟩ = some (.int .i64 t.f9) ∧ w'.cell? ⟨(ad.add (i * 11)).block, (ad.add (i * 11)).off + 10, none⟩ = some (.int .i64 t.f10) ∧ w'.cell? (a2.add (i - 1)) = some (.int .i64 (q : Int)) ∧ w'.cell? ⟨(ad.add (q * 11)).block, (ad.add (q * 11)).off + 10, none⟩ = some (.int .i64 tq.f10)) (first | exact KP.out _ (below_drew (Below.refl _ _)) | exact hHeld | assumption | exact KP.out _ (below_step hH.1 hb)) ((go_at_call 16; have hH : Below wr.heap.size wr _ ∧ _ := (by assumption); refine (task_Hard.calls _ _ _ _ _ _ _ _ _ _ _ (t.f7 == t.f8) _ rfl).mono ?_; rintro e w' ⟨rfl, hb⟩))
            all_goals
              have hH : Below wr.heap.size wr _ ∧ _ := (by assumption)
              have HB2 := Aside0.mk (below_step HB.out hH.1)
              have HK2 := Aside0.mk (blk_below HK.out hH.1)
              have HO2 := Aside0.mk (Kd.C_below HO.out hH.1)
              clear hH KP
              go_wp2_with fail
              go_roundg (ts.length - (i + 1))
              case measure => omega
              case rel => exact ⟨i + 1, by first | rfl | simp, by omega, HB2, HK2, HO2⟩
        · have hd : decide ((i : Int) < (ts.length : Int)) = false := by simp; omega
          go_wp2_with fail
          go_ret
          exact ⟨rfl, HB.out⟩
end Go.Proofs.YtphppahjkcnjlaaDoor.Q
