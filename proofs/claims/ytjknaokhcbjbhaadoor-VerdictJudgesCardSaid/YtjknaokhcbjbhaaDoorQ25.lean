-- Written for this claim by the session's own driver (wip/qprint.py) over the kit's printer, out of the translation. Not trusted: Lean checks it.
import Derived.Test.YtjknaokhcbjbhaaDoorM0
import Derived.Test.YtjknaokhcbjbhaaDoorQ21
import Derived.Test.YtjknaokhcbjbhaaDoorHfixJ
import Derived.Test.YtjknaokhcbjbhaaDoorHfixK
namespace Go.Proofs.YtjknaokhcbjbhaaDoor.Q
open Go.RowKit Go.Proofs.YtjknaokhcbjbhaaDoorW.PrintWords Go.Proofs.YtjknaokhcbjbhaaDoorW.PrintLast Go.Proofs.YtjknaokhcbjbhaaDoorW.PrintMore
attribute [local go_sem] max2_int min2_int max_two min_two max_three min_three max_four min_four   -- for this text's walks alone
set_option linter.unusedVariables false
set_option linter.unusedSimpArgs false

/-! ### pendulumref19_Next: function 31 -/
def pendulumref19_Next.l0 : Nat → Int → Int → Int → Int → Int → List (S42) → Option (Int)
 | 0, _, _, _, _, _, _ => none
 | k + 1, x1, x3, x9, x10, x167000, x167001 => if x10 < (x167001.length : Int) then (if 0 ≤ x10 then (if 0 ≤ x1 then (if x1 < (x167001.length : Int) then (if ((rd_T42 x167001 x10).f10) < ((rd_T42 x167001 x1).f10) then (if ((rd_T42 x167001 x10).f1) = 0 then (none) else ((pendulumref19_Whole.f ((rd_T42 x167001 x10).f0) ((rd_T42 x167001 x10).f1) ((rd_T42 x167001 x10).f2) ((rd_T42 x167001 x10).f3) ((rd_T42 x167001 x10).f4) ((rd_T42 x167001 x10).f5) ((rd_T42 x167001 x10).f6) ((rd_T42 x167001 x10).f7) ((rd_T42 x167001 x10).f8) ((rd_T42 x167001 x10).f9) ((rd_T42 x167001 x10).f10)).bind fun t175 => (pendulumref19_Next.l0 k x1 x3 (wrap64 (x9 + (wrap64 ((wrap64 (Int.tdiv (wrap64 ((wrap64 (x3 + ((rd_T42 x167001 x10).f1))) - 1)) ((rd_T42 x167001 x10).f1))) * t175)))) (wrap64 (x10 + 1)) x167000 x167001))) else (pendulumref19_Next.l0 k x1 x3 x9 (wrap64 (x10 + 1)) x167000 x167001)) else (none)) else (none)) else (none)) else (some x9)
def pendulumref19_Next.f (k : Nat) (a0_0 : Int) (l0_1 : List (S42)) (a1 : Int) (a2 : Int) (a3 : Int) : Option (Int) := if 0 ≤ a1 then (if a1 < (l0_1.length : Int) then ((pendulumref19_Whole.f ((rd_T42 l0_1 a1).f0) ((rd_T42 l0_1 a1).f1) ((rd_T42 l0_1 a1).f2) ((rd_T42 l0_1 a1).f3) ((rd_T42 l0_1 a1).f4) ((rd_T42 l0_1 a1).f5) ((rd_T42 l0_1 a1).f6) ((rd_T42 l0_1 a1).f7) ((rd_T42 l0_1 a1).f8) ((rd_T42 l0_1 a1).f9) ((rd_T42 l0_1 a1).f10)).bind fun t168 => ((pendulumref19_Ahead.f a0_0 l0_1 a1).bind fun t169 => ((pendulumref18_Most.f a3 a0_0 a2).bind fun t170 => ((pendulumref19_Dear.f a0_0 l0_1 a1).bind fun t171 => (pendulumref19_Next.l0 k a1 a3 (wrap64 ((wrap64 (t168 + t169)) + (wrap64 ((wrap64 (t170 * a0_0)) * t171)))) 0 a0_0 l0_1))))) else (none)) else (none)
theorem pendulumref19_Next.mono_l : ∀ k, (∀ y0 y1 y2 y3 y4 y5, LeO (pendulumref19_Next.l0 k y0 y1 y2 y3 y4 y5) (pendulumref19_Next.l0 (k + 1) y0 y1 y2 y3 y4 y5))
 | 0 => fun _ _ _ _ _ _ r h => by simp [pendulumref19_Next.l0] at h
 | k + 1 => by
  have ih0 := pendulumref19_Next.mono_l k
  ·intro y0 y1 y2 y3 y4 y5
   unfold pendulumref19_Next.l0
   repeat' first
   | (with_reducible exact ih0 _ _ _ _ _ _)
   | (with_reducible exact LeO.refl _)
   | (with_reducible exact LeO.none _)
   | (with_reducible refine LeO.ite ?_ ?_)
   | (with_reducible refine LeO.bind ?_ (fun _ => ?_))
   | exact ih0 _ _ _ _ _ _
   | exact LeO.none _
   | refine LeO.ite ?_ ?_
   | refine LeO.bind ?_ (fun _ => ?_)
theorem pendulumref19_Next.mono : ∀ a0 a1 a2 a3 a4 k, LeO (pendulumref19_Next.f k a0 a1 a2 a3 a4) (pendulumref19_Next.f (k + 1) a0 a1 a2 a3 a4) := by
 intro a0 a1 a2 a3 a4 k
 have ih0 := pendulumref19_Next.mono_l k
 unfold pendulumref19_Next.f
 repeat' first
   | (with_reducible exact ih0 _ _ _ _ _ _)
   | (with_reducible exact LeO.refl _)
   | (with_reducible exact LeO.none _)
   | (with_reducible refine LeO.ite ?_ ?_)
   | (with_reducible refine LeO.bind ?_ (fun _ => ?_))
   | exact ih0 _ _ _ _ _ _
   | exact LeO.none _
   | refine LeO.ite ?_ ?_
   | refine LeO.bind ?_ (fun _ => ?_)
def pendulumref19_Next.T1 : Bool × List (List Nat × List Nat) := (true, [([], []), ([0], [0]), ([], []), ([1, 2], [1, 2]), ([3], [3]), ([4], [4]), ([], []), ([], []), ([6, 7, 5], [6, 7]), ([5, 8], [5, 8]), ([], []), ([], []), ([11], [11]), ([], []), ([10, 12, 13, 8], [10, 12, 13]), ([], []), ([15], [15]), ([14, 16], [14, 16]), ([], []), ([], []), ([18, 19, 14], [18, 19]), ([17, 20], [17, 20]), ([9, 21], [9, 21]), ([22, 20, 0, 1, 2, 3, 4, 5, 6, 7, 8, 9, 10, 11, 12, 13, 14, 15, 16, 17, 18, 19, 20, 21, 22], [22])])
def pendulumref19_Next.B1 : List Nat := [0, 1, 0, 7, 15, 31, 0, 0, 255, 511, 0, 0, 2048, 0, 15871, 0, 32768, 130559, 0, 0, 818687, 2096639, 4194303, 8388607]
theorem pendulumref19_Next.tab1 : rtab .any (opsOf Tryd.f31 1) = pendulumref19_Next.T1 := by kernel_rfl
theorem pendulumref19_Next.bits1 : waitsOk pendulumref19_Next.T1.2 pendulumref19_Next.B1 = true := by kernel_rfl
def pendulumref19_Next.T6 : Bool × List (List Nat × List Nat) := (true, [([], []), ([0], [0]), ([], []), ([2], [2]), ([], []), ([3, 4], [3, 4]), ([5], [5]), ([6], [6]), ([1, 7], [1, 7])])
def pendulumref19_Next.B6 : List Nat := [0, 1, 0, 4, 0, 28, 60, 124, 255]
theorem pendulumref19_Next.tab6 : rtab .any (opsOf Tryd.f31 6) = pendulumref19_Next.T6 := by kernel_rfl
theorem pendulumref19_Next.bits6 : waitsOk pendulumref19_Next.T6.2 pendulumref19_Next.B6 = true := by kernel_rfl
def pendulumref19_Next.T7 : Bool × List (List Nat × List Nat) := (true, [([], []), ([], []), ([], []), ([2], [2]), ([1, 3], [1, 3]), ([4], [4]), ([], []), ([6], [6]), ([5, 7], [5, 7]), ([], []), ([9], [9]), ([8, 10], [8, 10]), ([0, 11], [0, 11]), ([12, 10, 0, 1, 2, 3, 4, 5, 6, 7, 8, 9, 10, 11, 12], [0, 12])])
def pendulumref19_Next.B7 : List Nat := [0, 0, 0, 4, 14, 30, 0, 64, 254, 0, 512, 2046, 4095, 8191]
theorem pendulumref19_Next.tab7 : rtab .any (opsOf Tryd.f31 7) = pendulumref19_Next.T7 := by kernel_rfl
theorem pendulumref19_Next.bits7 : waitsOk pendulumref19_Next.T7.2 pendulumref19_Next.B7 = true := by kernel_rfl
set_option maxHeartbeats 8000000 in
set_option maxRecDepth 100000 in
theorem pendulumref19_Next.calls (k : Nat) (a0_0 : Int) (A0_1 : Option Addr) (c0_1 : Nat) (l0_1 : List (S42)) (a1 : Int) (a2 : Int) (a3 : Int) (r : Int) (w : World) (hr0_1 : Kd.C k42 w A0_1 l0_1.length l0_1) (hc0_1 : l0_1.length ≤ c0_1) (h : pendulumref19_Next.f k a0_0 l0_1 a1 a2 a3 = some r) :
  Calls Tryd.prog 31 #[.agg #[.int .i64 a0_0, .slice A0_1 l0_1.length c0_1], .int .i64 a1, .int .i64 a2, .int .i64 a3] w fun e w' => e = .returned (.int .i64 r) ∧ Below w.heap.size w w' := by
 have hu24 := Tryd.underlying24
 have hu42 := Tryd.underlying42
 have HR0_1 := Aside0.mk hr0_1
 have HC0_1 := Aside0.mk hc0_1
 clear hr0_1 hc0_1
 have HB := Aside0.mk (Below.refl w.heap.size w)
 have H : (if 0 ≤ a1 then (if a1 < (l0_1.length : Int) then ((pendulumref19_Whole.f ((rd_T42 l0_1 a1).f0) ((rd_T42 l0_1 a1).f1) ((rd_T42 l0_1 a1).f2) ((rd_T42 l0_1 a1).f3) ((rd_T42 l0_1 a1).f4) ((rd_T42 l0_1 a1).f5) ((rd_T42 l0_1 a1).f6) ((rd_T42 l0_1 a1).f7) ((rd_T42 l0_1 a1).f8) ((rd_T42 l0_1 a1).f9) ((rd_T42 l0_1 a1).f10)).bind fun t168 => ((pendulumref19_Ahead.f a0_0 l0_1 a1).bind fun t169 => ((pendulumref18_Most.f a3 a0_0 a2).bind fun t170 => ((pendulumref19_Dear.f a0_0 l0_1 a1).bind fun t171 => (pendulumref19_Next.l0 k a1 a3 (wrap64 ((wrap64 (t168 + t169)) + (wrap64 ((wrap64 (t170 * a0_0)) * t171)))) 0 a0_0 l0_1))))) else (none)) else (none)) = some r := h
 clear h
 by_cases c5 : 0 ≤ a1
 ·rw [if_pos c5] at H
  have c5b0 : decide (0 ≤ a1) = true := decide_eq_true c5
  clear c5
  by_cases c6 : a1 < (l0_1.length : Int)
  ·rw [if_pos c6] at H
   have c6b0 : decide (a1 < (l0_1.length : Int)) = true := decide_eq_true c6
   clear c6
   replace H := Option.bind_eq_some_iff.mp H
   obtain ⟨t168, A70, H⟩ := H
   replace H : ((pendulumref19_Ahead.f a0_0 l0_1 a1).bind fun t169 => ((pendulumref18_Most.f a3 a0_0 a2).bind fun t170 => ((pendulumref19_Dear.f a0_0 l0_1 a1).bind fun t171 => (pendulumref19_Next.l0 k a1 a3 (wrap64 ((wrap64 (t168 + t169)) + (wrap64 ((wrap64 (t170 * a0_0)) * t171)))) 0 a0_0 l0_1)))) = some r := H
   have A7 := Aside0.mk A70
   clear A70
   replace H := Option.bind_eq_some_iff.mp H
   obtain ⟨t169, A80, H⟩ := H
   replace H : ((pendulumref18_Most.f a3 a0_0 a2).bind fun t170 => ((pendulumref19_Dear.f a0_0 l0_1 a1).bind fun t171 => (pendulumref19_Next.l0 k a1 a3 (wrap64 ((wrap64 (t168 + t169)) + (wrap64 ((wrap64 (t170 * a0_0)) * t171)))) 0 a0_0 l0_1))) = some r := H
   have A8 := Aside0.mk A80
   clear A80
   replace H := Option.bind_eq_some_iff.mp H
   obtain ⟨t170, A90, H⟩ := H
   replace H : ((pendulumref19_Dear.f a0_0 l0_1 a1).bind fun t171 => (pendulumref19_Next.l0 k a1 a3 (wrap64 ((wrap64 (t168 + t169)) + (wrap64 ((wrap64 (t170 * a0_0)) * t171)))) 0 a0_0 l0_1)) = some r := H
   have A9 := Aside0.mk A90
   clear A90
   replace H := Option.bind_eq_some_iff.mp H
   obtain ⟨t171, A100, H⟩ := H
   replace H : (pendulumref19_Next.l0 k a1 a3 (wrap64 ((wrap64 (t168 + t169)) + (wrap64 ((wrap64 (t170 * a0_0)) * t171)))) 0 a0_0 l0_1) = some r := H
   have A10 := Aside0.mk A100
   clear A100
   have H' := Aside0.mk H
   clear H
   go_enter Tryd.func31, Tryd.ntmps31
   try go_wp2_with (first | ((with_reducible refine gate_dst (N := 4) rfl ?_); refine box_event ?hg (N := 4) ?hd (cs := #[.int .i64 a0_0, .slice A0_1 l0_1.length c0_1]) (t := 24) ?hr ?_; (case hd => rfl); (case hg => rfl); (case hr => first | (go_simp; done) | (go_simp; rfl)); intro gb166 hg w11 hbox hb; have n0_ := Aside0.mk (below_step (by repeat (first | (with_reducible first | exact HB.out | apply below_alloc | apply pw_below_drewN | apply below_drew1) | exact HB.out)) hb); have n1_ := Aside0.mk (hbox); have n2_ := Aside0.mk ((by rw [hg]; exact (below_size (by repeat (first | (with_reducible first | exact HB.out | apply below_alloc | apply pw_below_drewN | apply below_drew1) | exact HB.out))) : w.heap.size ≤ gb166)); have n3_ := Aside0.mk ((by rw [hg]; exact (below_size (by repeat (first | (with_reducible first | exact HB.out | apply below_alloc | apply pw_below_drewN | apply below_drew1) | exact HB.out))) : w.heap.size ≤ gb166)); clear HB; have HB := n0_; have BK166 := n1_; have GW166 := n2_; have GE166 := n3_; clear n0_ n1_ n2_ n3_; clear hb hbox hg))
   have n0_ := Aside0.mk (blk_drew BK166.out)
   have n1_ := Aside0.mk (below_drew1 HB.out)
   clear BK166
   clear HB
   have BK166 := n0_
   have HB := n1_
   clear n0_ n1_
   have p167 : 0 ≤ (a1 : Int) := of_decide_eq_true (by first | (with_reducible assumption) | assumption)
   have q167 : a1 < (l0_1.length : Int) := of_decide_eq_true (by first | (with_reducible assumption) | assumption)
   obtain ⟨ad167, e167, hx167_0, hx167_1, hx167_2, hx167_3, hx167_4, hx167_5, hx167_6, hx167_7, hx167_8, hx167_9, hx167_10⟩ := at_T42 HR0_1.out a1 p167 q167
   have hw167_10 := hx167_10
   have hw167_9 := hx167_9
   have hw167_8 := hx167_8
   have hw167_7 := hx167_7
   have hw167_6 := hx167_6
   have hw167_5 := hx167_5
   have hw167_4 := hx167_4
   have hw167_3 := hx167_3
   have hw167_2 := hx167_2
   have hw167_1 := hx167_1
   have hw167_0 := hx167_0
   cases e167
   replace hx167_0 := (HB.out.cell (World.block_lt_of_cell? w _ hx167_0)).trans hx167_0
   replace hx167_1 := (HB.out.cell (World.block_lt_of_cell? w _ hx167_1)).trans hx167_1
   replace hx167_2 := (HB.out.cell (World.block_lt_of_cell? w _ hx167_2)).trans hx167_2
   replace hx167_3 := (HB.out.cell (World.block_lt_of_cell? w _ hx167_3)).trans hx167_3
   replace hx167_4 := (HB.out.cell (World.block_lt_of_cell? w _ hx167_4)).trans hx167_4
   replace hx167_5 := (HB.out.cell (World.block_lt_of_cell? w _ hx167_5)).trans hx167_5
   replace hx167_6 := (HB.out.cell (World.block_lt_of_cell? w _ hx167_6)).trans hx167_6
   replace hx167_7 := (HB.out.cell (World.block_lt_of_cell? w _ hx167_7)).trans hx167_7
   replace hx167_8 := (HB.out.cell (World.block_lt_of_cell? w _ hx167_8)).trans hx167_8
   replace hx167_9 := (HB.out.cell (World.block_lt_of_cell? w _ hx167_9)).trans hx167_9
   replace hx167_10 := (HB.out.cell (World.block_lt_of_cell? w _ hx167_10)).trans hx167_10
   replace p167 := eq_true p167
   replace q167 := eq_true q167
   refine start_ (n := 24) (S := fun w' => w'.cell? ⟨gb166, 0, none⟩ = some (.int .i64 a0_0) ∧ w'.cell? ⟨gb166, 1, none⟩ = some (.slice (some ad167) l0_1.length c0_1) ∧ w'.cell? (ad167.add ((a1).toNat * 11)) = some (.string ((rd_T42 l0_1 a1).f0)) ∧ w'.cell? ⟨(ad167.add ((a1).toNat * 11)).block, (ad167.add ((a1).toNat * 11)).off + 1, none⟩ = some (.int .i64 ((rd_T42 l0_1 a1).f1)) ∧ w'.cell? ⟨(ad167.add ((a1).toNat * 11)).block, (ad167.add ((a1).toNat * 11)).off + 2, none⟩ = some (.int .i64 ((rd_T42 l0_1 a1).f2)) ∧ w'.cell? ⟨(ad167.add ((a1).toNat * 11)).block, (ad167.add ((a1).toNat * 11)).off + 3, none⟩ = some (.int .i64 ((rd_T42 l0_1 a1).f3)) ∧ w'.cell? ⟨(ad167.add ((a1).toNat * 11)).block, (ad167.add ((a1).toNat * 11)).off + 4, none⟩ = some (.int .i64 ((rd_T42 l0_1 a1).f4)) ∧ w'.cell? ⟨(ad167.add ((a1).toNat * 11)).block, (ad167.add ((a1).toNat * 11)).off + 5, none⟩ = some (.int .i64 ((rd_T42 l0_1 a1).f5)) ∧ w'.cell? ⟨(ad167.add ((a1).toNat * 11)).block, (ad167.add ((a1).toNat * 11)).off + 6, none⟩ = some (.int .i64 ((rd_T42 l0_1 a1).f6)) ∧ w'.cell? ⟨(ad167.add ((a1).toNat * 11)).block, (ad167.add ((a1).toNat * 11)).off + 7, none⟩ = some (.int .i64 ((rd_T42 l0_1 a1).f7)) ∧ w'.cell? ⟨(ad167.add ((a1).toNat * 11)).block, (ad167.add ((a1).toNat * 11)).off + 8, none⟩ = some (.int .i64 ((rd_T42 l0_1 a1).f8)) ∧ w'.cell? ⟨(ad167.add ((a1).toNat * 11)).block, (ad167.add ((a1).toNat * 11)).off + 9, none⟩ = some (.int .i64 ((rd_T42 l0_1 a1).f9)) ∧ w'.cell? ⟨(ad167.add ((a1).toNat * 11)).block, (ad167.add ((a1).toNat * 11)).off + 10, none⟩ = some (.int .i64 ((rd_T42 l0_1 a1).f10))) (ds := []) #[false, false, false, false, false, false, false, false, false, false, false, false, false, false, false, false, false, false, false, false, false, false, false, false] (by kernel_rfl) rfl rfl ⟨(blk_cell BK166.out 0).trans rfl, (blk_cell BK166.out 1).trans rfl, ((HB.out.cell (World.block_lt_of_cell? w _ hw167_0)).trans hw167_0), ((HB.out.cell (World.block_lt_of_cell? w _ hw167_1)).trans hw167_1), ((HB.out.cell (World.block_lt_of_cell? w _ hw167_2)).trans hw167_2), ((HB.out.cell (World.block_lt_of_cell? w _ hw167_3)).trans hw167_3), ((HB.out.cell (World.block_lt_of_cell? w _ hw167_4)).trans hw167_4), ((HB.out.cell (World.block_lt_of_cell? w _ hw167_5)).trans hw167_5), ((HB.out.cell (World.block_lt_of_cell? w _ hw167_6)).trans hw167_6), ((HB.out.cell (World.block_lt_of_cell? w _ hw167_7)).trans hw167_7), ((HB.out.cell (World.block_lt_of_cell? w _ hw167_8)).trans hw167_8), ((HB.out.cell (World.block_lt_of_cell? w _ hw167_9)).trans hw167_9), ((HB.out.cell (World.block_lt_of_cell? w _ hw167_10)).trans hw167_10)⟩ (fun hHeld => ?_); refine with_tabW pendulumref19_Next.tab1 pendulumref19_Next.bits1 (fun HT_ HW_ => ?_)
   generalize w11.drew = w12 at BK166 HB hx167_0 hx167_1 hx167_10 hx167_2 hx167_3 hx167_4 hx167_5 hx167_6 hx167_7 hx167_8 hx167_9 hHeld ⊢
   refine pure_ (i := 0) (N := some 12) (v := ?_) (a' := ?_) #[true, false, false, false, false, false, false, false, false, false, false, false, false, false, false, false, false, false, false, false, false, false, false, false] rfl rfl (any_of HT_.out (by kernel_rfl)) (fun _ _ _ h => h) (Or.inl ⟨by rfl, ?_⟩) ?_ ?_
   rotate_left
   ·intro w'
    go_simp
    with_reducible rfl
   rotate_left
   ·simp only [Act.put, List.setIfInBounds_toArray, List.set_cons_zero, List.set_cons_succ, i64_w, i32_w]
    rfl
   refine pure_ (i := 2) (N := some 14) (v := ?_) (a' := ?_) #[true, false, true, false, false, false, false, false, false, false, false, false, false, false, false, false, false, false, false, false, false, false, false, false] rfl rfl (any_of HT_.out (by kernel_rfl)) (fun _ _ _ h => h) (Or.inl ⟨by rfl, ?_⟩) ?_ ?_
   rotate_left
   ·intro w'
    go_simp
    with_reducible rfl
   rotate_left
   ·simp only [Act.put, List.setIfInBounds_toArray, List.set_cons_zero, List.set_cons_succ, i64_w, i32_w]
    rfl
   refine pure_ (i := 7) (N := some 19) (v := ?_) (a' := ?_) #[true, false, true, false, false, false, false, true, false, false, false, false, false, false, false, false, false, false, false, false, false, false, false, false] rfl rfl (any_of HT_.out (by kernel_rfl)) (fun _ _ _ h => h) (Or.inl ⟨by rfl, ?_⟩) ?_ ?_
   rotate_left
   ·intro w'
    go_simp
    with_reducible rfl
   rotate_left
   ·simp only [Act.put, List.setIfInBounds_toArray, List.set_cons_zero, List.set_cons_succ, i64_w, i32_w]
    rfl
   refine pure_ (i := 10) (N := some 22) (v := ?_) (a' := ?_) #[true, false, true, false, false, false, false, true, false, false, true, false, false, false, false, false, false, false, false, false, false, false, false, false] rfl rfl (any_of HT_.out (by kernel_rfl)) (fun _ _ _ h => h) (Or.inl ⟨by rfl, ?_⟩) ?_ ?_
   rotate_left
   ·intro w'
    go_simp
    with_reducible rfl
   rotate_left
   ·simp only [Act.put, List.setIfInBounds_toArray, List.set_cons_zero, List.set_cons_succ, i64_w, i32_w]
    rfl
   refine pure_ (i := 11) (N := some 23) (v := ?_) (a' := ?_) #[true, false, true, false, false, false, false, true, false, false, true, true, false, false, false, false, false, false, false, false, false, false, false, false] rfl rfl (any_of HT_.out (by kernel_rfl)) (fun _ _ _ h => h) (Or.inl ⟨by rfl, ?_⟩) ?_ ?_
   rotate_left
   ·intro w'
    go_simp
    with_reducible rfl
   rotate_left
   ·simp only [Act.put, List.setIfInBounds_toArray, List.set_cons_zero, List.set_cons_succ, i64_w, i32_w]
    rfl
   refine pure_ (i := 13) (N := some 25) (v := ?_) (a' := ?_) #[true, false, true, false, false, false, false, true, false, false, true, true, false, true, false, false, false, false, false, false, false, false, false, false] rfl rfl (any_of HT_.out (by kernel_rfl)) (fun _ _ _ h => h) (Or.inl ⟨by rfl, ?_⟩) ?_ ?_
   rotate_left
   ·intro w'
    go_simp
    with_reducible rfl
   rotate_left
   ·simp only [Act.put, List.setIfInBounds_toArray, List.set_cons_zero, List.set_cons_succ, i64_w, i32_w]
    rfl
   refine pure_ (i := 15) (N := some 27) (v := ?_) (a' := ?_) #[true, false, true, false, false, false, false, true, false, false, true, true, false, true, false, true, false, false, false, false, false, false, false, false] rfl rfl (any_of HT_.out (by kernel_rfl)) (fun _ _ _ h => h) (Or.inl ⟨by rfl, ?_⟩) ?_ ?_
   rotate_left
   ·intro w'
    go_simp
    with_reducible rfl
   rotate_left
   ·simp only [Act.put, List.setIfInBounds_toArray, List.set_cons_zero, List.set_cons_succ, i64_w, i32_w]
    rfl
   refine pure_ (i := 19) (N := some 31) (v := ?_) (a' := ?_) #[true, false, true, false, false, false, false, true, false, false, true, true, false, true, false, true, false, false, false, true, false, false, false, false] rfl rfl (any_of HT_.out (by kernel_rfl)) (fun _ _ _ h => h) (Or.inl ⟨by rfl, ?_⟩) ?_ ?_
   rotate_left
   ·intro w'
    go_simp
    with_reducible rfl
   rotate_left
   ·simp only [Act.put, List.setIfInBounds_toArray, List.set_cons_zero, List.set_cons_succ, i64_w, i32_w]
    rfl
   refine take_ (i := 1) (N := some 13) (v := ?_) (a' := ?_) #[true, true, true, false, false, false, false, true, false, false, true, true, false, true, false, true, false, false, false, true, false, false, false, false] rfl rfl (take_ofW HT_.out HW_.out (by kernel_rfl)) (fun _ _ _ h => h) (Or.inl ⟨by rfl, ?_⟩) hHeld ?_ ?_
   rotate_left
   ·rintro w' ⟨s0, s1, s2, s3, s4, s5, s6, s7, s8, s9, s10, s11, s12⟩
    go_simp
    with_reducible rfl
   rotate_left
   ·simp only [Act.put, List.setIfInBounds_toArray, List.set_cons_zero, List.set_cons_succ, i64_w, i32_w]
    rfl
   refine pure_ (i := 3) (N := some 15) (v := ?_) (a' := ?_) #[true, true, true, true, false, false, false, true, false, false, true, true, false, true, false, true, false, false, false, true, false, false, false, false] rfl rfl (any_of HT_.out (by kernel_rfl)) (fun _ _ _ h => h) (Or.inl ⟨by rfl, ?_⟩) ?_ ?_
   rotate_left
   ·intro w'
    go_simp
    with_reducible rfl
   rotate_left
   ·simp only [Act.put, List.setIfInBounds_toArray, List.set_cons_zero, List.set_cons_succ, i64_w, i32_w]
    rfl
   refine take_ (i := 4) (N := some 16) (v := ?_) (a' := ?_) #[true, true, true, true, true, false, false, true, false, false, true, true, false, true, false, true, false, false, false, true, false, false, false, false] rfl rfl (take_ofW HT_.out HW_.out (by kernel_rfl)) (fun _ _ _ h => h) (Or.inl ⟨by rfl, ?_⟩) hHeld ?_ ?_
   rotate_left
   ·rintro w' ⟨s0, s1, s2, s3, s4, s5, s6, s7, s8, s9, s10, s11, s12⟩
    go_simp
    with_reducible rfl
   rotate_left
   ·simp only [Act.put, List.setIfInBounds_toArray, List.set_cons_zero, List.set_cons_succ, i64_w, i32_w]
    rfl
   refine take_ (i := 6) (N := some 18) (v := ?_) (a' := ?_) #[true, true, true, true, true, false, true, true, false, false, true, true, false, true, false, true, false, false, false, true, false, false, false, false] rfl rfl (take_ofW HT_.out HW_.out (by kernel_rfl)) (fun _ _ _ h => h) (Or.inl ⟨by rfl, ?_⟩) hHeld ?_ ?_
   rotate_left
   ·rintro w' ⟨s0, s1, s2, s3, s4, s5, s6, s7, s8, s9, s10, s11, s12⟩
    go_simp
    with_reducible rfl
   rotate_left
   ·simp only [Act.put, List.setIfInBounds_toArray, List.set_cons_zero, List.set_cons_succ, i64_w, i32_w]
    rfl
   refine take_ (i := 12) (N := some 24) (v := ?_) (a' := ?_) #[true, true, true, true, true, false, true, true, false, false, true, true, true, true, false, true, false, false, false, true, false, false, false, false] rfl rfl (take_ofW HT_.out HW_.out (by kernel_rfl)) (fun _ _ _ h => h) (Or.inl ⟨by rfl, ?_⟩) hHeld ?_ ?_
   rotate_left
   ·rintro w' ⟨s0, s1, s2, s3, s4, s5, s6, s7, s8, s9, s10, s11, s12⟩
    go_simp
    with_reducible rfl
   rotate_left
   ·simp only [Act.put, List.setIfInBounds_toArray, List.set_cons_zero, List.set_cons_succ, i64_w, i32_w]
    rfl
   refine take_ (i := 16) (N := some 28) (v := ?_) (a' := ?_) #[true, true, true, true, true, false, true, true, false, false, true, true, true, true, false, true, true, false, false, true, false, false, false, false] rfl rfl (take_ofW HT_.out HW_.out (by kernel_rfl)) (fun _ _ _ h => h) (Or.inl ⟨by rfl, ?_⟩) hHeld ?_ ?_
   rotate_left
   ·rintro w' ⟨s0, s1, s2, s3, s4, s5, s6, s7, s8, s9, s10, s11, s12⟩
    go_simp
    with_reducible rfl
   rotate_left
   ·simp only [Act.put, List.setIfInBounds_toArray, List.set_cons_zero, List.set_cons_succ, i64_w, i32_w]
    rfl
   refine take_ (i := 18) (N := some 30) (v := ?_) (a' := ?_) #[true, true, true, true, true, false, true, true, false, false, true, true, true, true, false, true, true, false, true, true, false, false, false, false] rfl rfl (take_ofW HT_.out HW_.out (by kernel_rfl)) (fun _ _ _ h => h) (Or.inl ⟨by rfl, ?_⟩) hHeld ?_ ?_
   rotate_left
   ·rintro w' ⟨s0, s1, s2, s3, s4, s5, s6, s7, s8, s9, s10, s11, s12⟩
    go_simp
    with_reducible rfl
   rotate_left
   ·simp only [Act.put, List.setIfInBounds_toArray, List.set_cons_zero, List.set_cons_succ, i64_w, i32_w]
    rfl
   refine one_ (i := 5) (N := some 17) #[true, true, true, true, true, true, true, true, false, false, true, true, true, true, false, true, true, false, true, true, false, false, false, false] rfl rfl (one_of HT_.out (by kernel_rfl)) (by decide) (fun K hK => ?_)
   refine goes_ Tryd.func45 (by kernel_rfl) rfl #[.agg #[.string ((rd_T42 l0_1 a1).f0), .int .i64 ((rd_T42 l0_1 a1).f1), .int .i64 ((rd_T42 l0_1 a1).f2), .int .i64 ((rd_T42 l0_1 a1).f3), .int .i64 ((rd_T42 l0_1 a1).f4), .int .i64 ((rd_T42 l0_1 a1).f5), .int .i64 ((rd_T42 l0_1 a1).f6), .int .i64 ((rd_T42 l0_1 a1).f7), .int .i64 ((rd_T42 l0_1 a1).f8), .int .i64 ((rd_T42 l0_1 a1).f9), .int .i64 ((rd_T42 l0_1 a1).f10)]] (by rfl) rfl rfl (by (try simp only [List.map_toArray, List.map_cons, List.map_nil]); first | done | rfl | (simp only [List.length_drop, List.length_take]; rfl)) ?_
   with_reducible refine (pendulumref19_Whole.calls ((rd_T42 l0_1 a1).f0) ((rd_T42 l0_1 a1).f1) ((rd_T42 l0_1 a1).f2) ((rd_T42 l0_1 a1).f3) ((rd_T42 l0_1 a1).f4) ((rd_T42 l0_1 a1).f5) ((rd_T42 l0_1 a1).f6) ((rd_T42 l0_1 a1).f7) ((rd_T42 l0_1 a1).f8) ((rd_T42 l0_1 a1).f9) ((rd_T42 l0_1 a1).f10) t168 _ A7.out).mono ?_
   rintro e w13 ⟨rfl, hb⟩
   refine ⟨_, rfl, ?_⟩
   have n0_ := Aside0.mk (blk_below (g := gb166) (o := .cells #[.int .i64 a0_0, .slice (some ad167) l0_1.length c0_1] 24 (0, 0)) (by (with_reducible repeat (first | refine blk_drewN ?_ _ | refine blk_drew ?_ | refine blk_alloc ?_ _)); exact BK166.out) hb)
   have n1_ := Aside0.mk (below_step (by repeat (first | (with_reducible first | exact HB.out | apply below_alloc | apply pw_below_drewN | apply below_drew1 | refine below_set ?_ GE166.out) | exact HB.out)) hb)
   clear BK166
   clear HB
   have BK166 := n0_
   have HB := n1_
   clear n0_ n1_
   (try clear hb)
   (try clear hb2)
   (try clear hk)
   (try clear hi)
   refine hK.out _ _ ⟨(blk_cell BK166.out 0).trans rfl, (blk_cell BK166.out 1).trans rfl, ((HB.out.cell (World.block_lt_of_cell? w _ hw167_0)).trans hw167_0), ((HB.out.cell (World.block_lt_of_cell? w _ hw167_1)).trans hw167_1), ((HB.out.cell (World.block_lt_of_cell? w _ hw167_2)).trans hw167_2), ((HB.out.cell (World.block_lt_of_cell? w _ hw167_3)).trans hw167_3), ((HB.out.cell (World.block_lt_of_cell? w _ hw167_4)).trans hw167_4), ((HB.out.cell (World.block_lt_of_cell? w _ hw167_5)).trans hw167_5), ((HB.out.cell (World.block_lt_of_cell? w _ hw167_6)).trans hw167_6), ((HB.out.cell (World.block_lt_of_cell? w _ hw167_7)).trans hw167_7), ((HB.out.cell (World.block_lt_of_cell? w _ hw167_8)).trans hw167_8), ((HB.out.cell (World.block_lt_of_cell? w _ hw167_9)).trans hw167_9), ((HB.out.cell (World.block_lt_of_cell? w _ hw167_10)).trans hw167_10)⟩ (fun hHeld => ?_)
   clear hK K
   refine norm_ (a' := ?_) ?_ ?_
   rotate_left
   ·show Act.put _ (some 17) _ = _
    simp only [Act.put, List.setIfInBounds_toArray, List.set_cons_zero, List.set_cons_succ, i64_w, i32_w]
    rfl
   refine one_ (i := 8) (N := some 20) #[true, true, true, true, true, true, true, true, true, false, true, true, true, true, false, true, true, false, true, true, false, false, false, false] rfl rfl (one_of HT_.out (by kernel_rfl)) (by decide) (fun K hK => ?_)
   refine goes_ Tryd.func46 (by kernel_rfl) rfl #[.agg #[.int .i64 a0_0, .slice (some ad167) l0_1.length c0_1], .int .i64 a1] (by rfl) rfl rfl (by (try simp only [List.map_toArray, List.map_cons, List.map_nil]); first | done | rfl | (simp only [List.length_drop, List.length_take]; rfl)) ?_
   with_reducible refine (pendulumref19_Ahead.calls a0_0 _ _ l0_1 a1 t169 _ ?side1 ?side2 A8.out).mono ?_
   (case side1 => repeat (first | exact (Kd.C_below HR0_1.out HB.out) | (with_reducible refine Kd.C_alloc ?_ _) | (with_reducible refine Kd.C_drewN ?_ _) | (with_reducible refine Kd.C_drew ?_)))
   (case side2 => exact HC0_1.out)
   rintro e w14 ⟨rfl, hb⟩
   refine ⟨_, rfl, ?_⟩
   have n0_ := Aside0.mk (blk_below (g := gb166) (o := .cells #[.int .i64 a0_0, .slice (some ad167) l0_1.length c0_1] 24 (0, 0)) (by (with_reducible repeat (first | refine blk_drewN ?_ _ | refine blk_drew ?_ | refine blk_alloc ?_ _)); exact BK166.out) hb)
   have n1_ := Aside0.mk (below_step (by repeat (first | (with_reducible first | exact HB.out | apply below_alloc | apply pw_below_drewN | apply below_drew1 | refine below_set ?_ GE166.out) | exact HB.out)) hb)
   clear BK166
   clear HB
   have BK166 := n0_
   have HB := n1_
   clear n0_ n1_
   (try clear hb)
   (try clear hb2)
   (try clear hk)
   (try clear hi)
   refine hK.out _ _ ⟨(blk_cell BK166.out 0).trans rfl, (blk_cell BK166.out 1).trans rfl, ((HB.out.cell (World.block_lt_of_cell? w _ hw167_0)).trans hw167_0), ((HB.out.cell (World.block_lt_of_cell? w _ hw167_1)).trans hw167_1), ((HB.out.cell (World.block_lt_of_cell? w _ hw167_2)).trans hw167_2), ((HB.out.cell (World.block_lt_of_cell? w _ hw167_3)).trans hw167_3), ((HB.out.cell (World.block_lt_of_cell? w _ hw167_4)).trans hw167_4), ((HB.out.cell (World.block_lt_of_cell? w _ hw167_5)).trans hw167_5), ((HB.out.cell (World.block_lt_of_cell? w _ hw167_6)).trans hw167_6), ((HB.out.cell (World.block_lt_of_cell? w _ hw167_7)).trans hw167_7), ((HB.out.cell (World.block_lt_of_cell? w _ hw167_8)).trans hw167_8), ((HB.out.cell (World.block_lt_of_cell? w _ hw167_9)).trans hw167_9), ((HB.out.cell (World.block_lt_of_cell? w _ hw167_10)).trans hw167_10)⟩ (fun hHeld => ?_)
   clear hK K
   refine norm_ (a' := ?_) ?_ ?_
   rotate_left
   ·show Act.put _ (some 20) _ = _
    simp only [Act.put, List.setIfInBounds_toArray, List.set_cons_zero, List.set_cons_succ, i64_w, i32_w]
    rfl
   refine pure_ (i := 9) (N := some 21) (v := ?_) (a' := ?_) #[true, true, true, true, true, true, true, true, true, true, true, true, true, true, false, true, true, false, true, true, false, false, false, false] rfl rfl (any_of HT_.out (by kernel_rfl)) (fun _ _ _ h => h) (Or.inl ⟨by rfl, ?_⟩) ?_ ?_
   rotate_left
   ·intro w'
    go_simp
    with_reducible rfl
   rotate_left
   ·simp only [Act.put, List.setIfInBounds_toArray, List.set_cons_zero, List.set_cons_succ, i64_w, i32_w]
    rfl
   refine one_ (i := 14) (N := some 26) #[true, true, true, true, true, true, true, true, true, true, true, true, true, true, true, true, true, false, true, true, false, false, false, false] rfl rfl (one_of HT_.out (by kernel_rfl)) (by decide) (fun K hK => ?_)
   refine goes_ Tryd.func47 (by kernel_rfl) rfl #[.int .i64 a3, .int .i64 a0_0, .int .i64 a2] (by rfl) rfl rfl (by (try simp only [List.map_toArray, List.map_cons, List.map_nil]); first | done | rfl | (simp only [List.length_drop, List.length_take]; rfl)) ?_
   with_reducible refine (pendulumref18_Most.calls a3 a0_0 a2 t170 _ A9.out).mono ?_
   rintro e w' ⟨rfl, ⟨nd, rfl⟩⟩
   refine ⟨_, rfl, ?_⟩
   refine hK.out _ _ ⟨(blk_cell BK166.out 0).trans rfl, (blk_cell BK166.out 1).trans rfl, ((HB.out.cell (World.block_lt_of_cell? w _ hw167_0)).trans hw167_0), ((HB.out.cell (World.block_lt_of_cell? w _ hw167_1)).trans hw167_1), ((HB.out.cell (World.block_lt_of_cell? w _ hw167_2)).trans hw167_2), ((HB.out.cell (World.block_lt_of_cell? w _ hw167_3)).trans hw167_3), ((HB.out.cell (World.block_lt_of_cell? w _ hw167_4)).trans hw167_4), ((HB.out.cell (World.block_lt_of_cell? w _ hw167_5)).trans hw167_5), ((HB.out.cell (World.block_lt_of_cell? w _ hw167_6)).trans hw167_6), ((HB.out.cell (World.block_lt_of_cell? w _ hw167_7)).trans hw167_7), ((HB.out.cell (World.block_lt_of_cell? w _ hw167_8)).trans hw167_8), ((HB.out.cell (World.block_lt_of_cell? w _ hw167_9)).trans hw167_9), ((HB.out.cell (World.block_lt_of_cell? w _ hw167_10)).trans hw167_10)⟩ (fun hHeld => ?_)
   clear hK K
   refine norm_ (a' := ?_) ?_ ?_
   rotate_left
   ·show Act.put _ (some 26) _ = _
    simp only [Act.put, List.setIfInBounds_toArray, List.set_cons_zero, List.set_cons_succ, i64_w, i32_w]
    rfl
   refine pure_ (i := 17) (N := some 29) (v := ?_) (a' := ?_) #[true, true, true, true, true, true, true, true, true, true, true, true, true, true, true, true, true, true, true, true, false, false, false, false] rfl rfl (any_of HT_.out (by kernel_rfl)) (fun _ _ _ h => h) (Or.inl ⟨by rfl, ?_⟩) ?_ ?_
   rotate_left
   ·intro w'
    go_simp
    with_reducible rfl
   rotate_left
   ·simp only [Act.put, List.setIfInBounds_toArray, List.set_cons_zero, List.set_cons_succ, i64_w, i32_w]
    rfl
   refine one_ (i := 20) (N := some 32) #[true, true, true, true, true, true, true, true, true, true, true, true, true, true, true, true, true, true, true, true, true, false, false, false] rfl rfl (one_of HT_.out (by kernel_rfl)) (by decide) (fun K hK => ?_)
   refine goes_ Tryd.func48 (by kernel_rfl) rfl #[.agg #[.int .i64 a0_0, .slice (some ad167) l0_1.length c0_1], .int .i64 a1] (by rfl) rfl rfl (by (try simp only [List.map_toArray, List.map_cons, List.map_nil]); first | done | rfl | (simp only [List.length_drop, List.length_take]; rfl)) ?_
   with_reducible refine (pendulumref19_Dear.calls a0_0 _ _ l0_1 a1 t171 _ ?side1 ?side2 A10.out).mono ?_
   (case side1 => repeat (first | exact (Kd.C_below HR0_1.out (by repeat (first | (with_reducible first | exact HB.out | apply below_alloc | apply pw_below_drewN | apply below_drew1 | refine below_set ?_ GE166.out) | exact HB.out))) | (with_reducible refine Kd.C_alloc ?_ _) | (with_reducible refine Kd.C_drewN ?_ _) | (with_reducible refine Kd.C_drew ?_)))
   (case side2 => exact HC0_1.out)
   rintro e w15 ⟨rfl, hb⟩
   refine ⟨_, rfl, ?_⟩
   have n0_ := Aside0.mk (blk_below (g := gb166) (o := .cells #[.int .i64 a0_0, .slice (some ad167) l0_1.length c0_1] 24 (0, 0)) (by (with_reducible repeat (first | refine blk_drewN ?_ _ | refine blk_drew ?_ | refine blk_alloc ?_ _)); exact BK166.out) hb)
   have n1_ := Aside0.mk (below_step (by repeat (first | (with_reducible first | exact HB.out | apply below_alloc | apply pw_below_drewN | apply below_drew1 | refine below_set ?_ GE166.out) | exact HB.out)) hb)
   clear BK166
   clear HB
   have BK166 := n0_
   have HB := n1_
   clear n0_ n1_
   (try clear hb)
   (try clear hb2)
   (try clear hk)
   (try clear hi)
   refine hK.out _ _ ⟨(blk_cell BK166.out 0).trans rfl, (blk_cell BK166.out 1).trans rfl, ((HB.out.cell (World.block_lt_of_cell? w _ hw167_0)).trans hw167_0), ((HB.out.cell (World.block_lt_of_cell? w _ hw167_1)).trans hw167_1), ((HB.out.cell (World.block_lt_of_cell? w _ hw167_2)).trans hw167_2), ((HB.out.cell (World.block_lt_of_cell? w _ hw167_3)).trans hw167_3), ((HB.out.cell (World.block_lt_of_cell? w _ hw167_4)).trans hw167_4), ((HB.out.cell (World.block_lt_of_cell? w _ hw167_5)).trans hw167_5), ((HB.out.cell (World.block_lt_of_cell? w _ hw167_6)).trans hw167_6), ((HB.out.cell (World.block_lt_of_cell? w _ hw167_7)).trans hw167_7), ((HB.out.cell (World.block_lt_of_cell? w _ hw167_8)).trans hw167_8), ((HB.out.cell (World.block_lt_of_cell? w _ hw167_9)).trans hw167_9), ((HB.out.cell (World.block_lt_of_cell? w _ hw167_10)).trans hw167_10)⟩ (fun hHeld => ?_)
   clear hK K
   refine norm_ (a' := ?_) ?_ ?_
   rotate_left
   ·show Act.put _ (some 32) _ = _
    simp only [Act.put, List.setIfInBounds_toArray, List.set_cons_zero, List.set_cons_succ, i64_w, i32_w]
    rfl
   refine pure_ (i := 21) (N := some 33) (v := ?_) (a' := ?_) #[true, true, true, true, true, true, true, true, true, true, true, true, true, true, true, true, true, true, true, true, true, true, false, false] rfl rfl (any_of HT_.out (by kernel_rfl)) (fun _ _ _ h => h) (Or.inl ⟨by rfl, ?_⟩) ?_ ?_
   rotate_left
   ·intro w'
    go_simp
    with_reducible rfl
   rotate_left
   ·simp only [Act.put, List.setIfInBounds_toArray, List.set_cons_zero, List.set_cons_succ, i64_w, i32_w]
    rfl
   refine pure_ (i := 22) (N := some 34) (v := ?_) (a' := ?_) #[true, true, true, true, true, true, true, true, true, true, true, true, true, true, true, true, true, true, true, true, true, true, true, false] rfl rfl (any_of HT_.out (by kernel_rfl)) (fun _ _ _ h => h) (Or.inl ⟨by rfl, ?_⟩) ?_ ?_
   rotate_left
   ·intro w'
    go_simp
    with_reducible rfl
   rotate_left
   ·simp only [Act.put, List.setIfInBounds_toArray, List.set_cons_zero, List.set_cons_succ, i64_w, i32_w]
    rfl
   refine pure_ (i := 23) (N := some 9) (v := ?_) (a' := ?_) #[true, true, true, true, true, true, true, true, true, true, true, true, true, true, true, true, true, true, true, true, true, true, true, true] rfl rfl (any_of HT_.out (by kernel_rfl)) (fun _ _ _ h => h) (Or.inl ⟨by rfl, ?_⟩) ?_ ?_
   rotate_left
   ·intro w'
    go_simp
    with_reducible rfl
   rotate_left
   ·simp only [Act.put, List.setIfInBounds_toArray, List.set_cons_zero, List.set_cons_succ, i64_w, i32_w]
    rfl
   refine done_ (done_of HT_.out (by kernel_rfl)) ?_
   try go_wp2
   go_loopg [9, 10] k (fun kq v9 v10 w' => ∃ (x9_1 : Int) (x10_1 : Int), v9 = .int .i64 x9_1 ∧ v10 = .int .i64 x10_1 ∧ Aside0 (pendulumref19_Next.l0 kq a1 a3 x9_1 x10_1 a0_0 l0_1 = some r) ∧ Aside0 (kq ≤ k) ∧ Aside0 (w'.heap[gb166]? = some (.cells #[.int .i64 a0_0, (.slice (some ad167) l0_1.length c0_1)] 24 (0, 0))) ∧ Aside0 (Below w.heap.size w w'))
   case atStart => exact ⟨(wrap64 ((wrap64 (t168 + t169)) + (wrap64 ((wrap64 (t170 * a0_0)) * t171)))), (0), (by first | rfl | (simp; done) | (simp [*]; done)), (by first | rfl | (simp; done) | (simp [*]; done)), H', ⟨Nat.le_refl _⟩, ⟨by (with_reducible repeat (first | refine blk_drewN ?_ _ | refine blk_drew ?_ | refine blk_alloc ?_ _)); exact BK166.out⟩, ⟨by repeat (first | (with_reducible first | exact HB.out | apply below_alloc | apply pw_below_drewN | apply below_drew1 | refine below_set ?_ GE166.out) | exact HB.out)⟩⟩
   case round =>
    clear H'
    try clear p1
    try clear q1
    try clear hx1
    try clear p2
    try clear c3
    try clear c4
    try clear c5
    try clear c5b0
    try clear c6
    try clear c6b0
    try clear p6
    try clear hx167_0
    try clear hx167_1
    try clear hx167_10
    try clear hx167_2
    try clear hx167_3
    try clear hx167_4
    try clear hx167_5
    try clear hx167_6
    try clear hx167_7
    try clear hx167_8
    try clear hx167_9
    try clear p167
    try clear q167
    obtain ⟨x9_1, x10_1, rfl, rfl, HA, HK1, BK166, HB⟩ := hrel
    cases gk with
    | zero => exact absurd HA.out (by simp [pendulumref19_Next.l0])
    | succ k1 =>
     have H := HA.out
     clear HA
     simp only [pendulumref19_Next.l0] at H
     by_cases c16 : x10_1 < (l0_1.length : Int)
     ·rw [if_pos c16] at H
      have c16b0 : decide (x10_1 < (l0_1.length : Int)) = true := decide_eq_true c16
      clear c16
      by_cases c17 : 0 ≤ x10_1
      ·rw [if_pos c17] at H
       have c17b0 : decide (0 ≤ x10_1) = true := decide_eq_true c17
       clear c17
       by_cases c18 : 0 ≤ a1
       ·rw [if_pos c18] at H
        have c18b0 : decide (0 ≤ a1) = true := decide_eq_true c18
        clear c18
        by_cases c19 : a1 < (l0_1.length : Int)
        ·rw [if_pos c19] at H
         have c19b0 : decide (a1 < (l0_1.length : Int)) = true := decide_eq_true c19
         clear c19
         by_cases c20 : ((rd_T42 l0_1 x10_1).f10) < ((rd_T42 l0_1 a1).f10)
         ·rw [if_pos c20] at H
          have c20b0 : decide (((rd_T42 l0_1 x10_1).f10) < ((rd_T42 l0_1 a1).f10)) = true := decide_eq_true c20
          clear c20
          by_cases c21 : ((rd_T42 l0_1 x10_1).f1) = 0
          ·rw [if_pos c21] at H
           exact absurd H (by simp)
          ·rw [if_neg c21] at H
           have c21b0 : (((rd_T42 l0_1 x10_1).f1) == 0) = false := beq_eq_false_iff_ne.mpr c21
           have c21b1 : (((rd_T42 l0_1 x10_1).f1) != 0) = true := bne_iff_ne.mpr c21
           replace H := Option.bind_eq_some_iff.mp H
           obtain ⟨t175, A220, H⟩ := H
           replace H : (pendulumref19_Next.l0 k1 a1 a3 (wrap64 (x9_1 + (wrap64 ((wrap64 (Int.tdiv (wrap64 ((wrap64 (a3 + ((rd_T42 l0_1 x10_1).f1))) - 1)) ((rd_T42 l0_1 x10_1).f1))) * t175)))) (wrap64 (x10_1 + 1)) a0_0 l0_1) = some r := H
           have A22 := Aside0.mk A220
           clear A220
           have H' := Aside0.mk H
           clear H
           have hcz23_0 : wr.cell? ⟨gb166, 0, none⟩ = some (.int .i64 a0_0) := (blk_cell BK166.out 0).trans rfl
           have hcz23_1 : wr.cell? ⟨gb166, 1, none⟩ = some (.slice (some ad167) l0_1.length c0_1) := (blk_cell BK166.out 1).trans rfl
           have hfz23_0 := blk_frozen BK166.out 0
           have hfz23_1 := blk_frozen BK166.out 1
           have p172 : 0 ≤ (x10_1 : Int) := of_decide_eq_true (by first | (with_reducible assumption) | assumption)
           have q172 : x10_1 < (l0_1.length : Int) := of_decide_eq_true (by first | (with_reducible assumption) | assumption)
           obtain ⟨ad172, e172, hx172_0, hx172_1, hx172_2, hx172_3, hx172_4, hx172_5, hx172_6, hx172_7, hx172_8, hx172_9, hx172_10⟩ := at_T42 HR0_1.out x10_1 p172 q172
           obtain rfl : ad167 = ad172 := (by injection e172)
           replace hx172_0 := (HB.out.cell (World.block_lt_of_cell? w _ hx172_0)).trans hx172_0
           replace hx172_1 := (HB.out.cell (World.block_lt_of_cell? w _ hx172_1)).trans hx172_1
           replace hx172_2 := (HB.out.cell (World.block_lt_of_cell? w _ hx172_2)).trans hx172_2
           replace hx172_3 := (HB.out.cell (World.block_lt_of_cell? w _ hx172_3)).trans hx172_3
           replace hx172_4 := (HB.out.cell (World.block_lt_of_cell? w _ hx172_4)).trans hx172_4
           replace hx172_5 := (HB.out.cell (World.block_lt_of_cell? w _ hx172_5)).trans hx172_5
           replace hx172_6 := (HB.out.cell (World.block_lt_of_cell? w _ hx172_6)).trans hx172_6
           replace hx172_7 := (HB.out.cell (World.block_lt_of_cell? w _ hx172_7)).trans hx172_7
           replace hx172_8 := (HB.out.cell (World.block_lt_of_cell? w _ hx172_8)).trans hx172_8
           replace hx172_9 := (HB.out.cell (World.block_lt_of_cell? w _ hx172_9)).trans hx172_9
           replace hx172_10 := (HB.out.cell (World.block_lt_of_cell? w _ hx172_10)).trans hx172_10
           replace p172 := eq_true p172
           replace q172 := eq_true q172
           try go_wp2_with (first | ((with_reducible refine gate_dst (N := 11) rfl ?_); refine box_event ?hg (N := 11) ?hd (cs := #[.string (⟨#[]⟩ : ByteArray), .int .i64 0, .int .i64 0, .int .i64 0, .int .i64 0, .int .i64 0, .int .i64 0, .int .i64 0, .int .i64 0, .int .i64 0, .int .i64 0]) (t := 42) ?hr ?_; (case hd => rfl); (case hg => rfl); (case hr => first | (go_simp; done) | (go_simp; rfl)); intro gb173 hg w24 hbox hb; have n0_ := Aside0.mk (blk_below (g := gb166) (o := .cells #[.int .i64 a0_0, .slice (some ad167) l0_1.length c0_1] 24 (0, 0)) (by (with_reducible repeat (first | refine blk_drewN ?_ _ | refine blk_drew ?_ | refine blk_alloc ?_ _)); exact BK166.out) hb); have n1_ := Aside0.mk (below_step (by repeat (first | (with_reducible first | exact HB.out | apply below_alloc | apply pw_below_drewN | apply below_drew1 | refine below_set ?_ GE166.out) | exact HB.out)) hb); have n2_ := Aside0.mk (hbox); have n3_ := Aside0.mk ((by rw [hg]; exact (below_size (by repeat (first | (with_reducible first | exact HB.out | apply below_alloc | apply pw_below_drewN | apply below_drew1 | refine below_set ?_ GE166.out) | exact HB.out))) : w.heap.size ≤ gb173)); have n4_ := Aside0.mk ((by rw [hg]; exact (below_size (by repeat (first | (with_reducible first | exact HB.out | apply below_alloc | apply pw_below_drewN | apply below_drew1 | refine below_set ?_ GE166.out) | exact HB.out))) : w.heap.size ≤ gb173)); have n5_ := Aside0.mk ((by rw [hg]; exact Nat.ne_of_lt (blk_lt (g := gb166) (o := .cells #[.int .i64 a0_0, .slice (some ad167) l0_1.length c0_1] 24 (0, 0)) (by (with_reducible repeat (first | refine blk_drewN ?_ _ | refine blk_drew ?_ | refine blk_alloc ?_ _)); exact BK166.out)) : gb166 ≠ gb173)); have n6_ := Aside0.mk ((by rw [hg]; exact Nat.ne_of_gt (blk_lt (g := gb166) (o := .cells #[.int .i64 a0_0, .slice (some ad167) l0_1.length c0_1] 24 (0, 0)) (by (with_reducible repeat (first | refine blk_drewN ?_ _ | refine blk_drew ?_ | refine blk_alloc ?_ _)); exact BK166.out)) : gb173 ≠ gb166)); clear BK166; clear HB; have BK166 := n0_; have HB := n1_; have BK173 := n2_; have GW173 := n3_; have GE173 := n4_; have NB166_173 := n5_; have NB173_166 := n6_; clear n0_ n1_ n2_ n3_ n4_ n5_ n6_; clear hb hbox hg; have hnb25 := NB173_166.out; have hnc25 := NB166_173.out; have hcz26_0 : w24.cell? ⟨gb173, 0, none⟩ = some (.string (⟨#[]⟩ : ByteArray)) := (blk_cell BK173.out 0).trans rfl; have hcz26_1 : w24.cell? ⟨gb173, 1, none⟩ = some (.int .i64 0) := (blk_cell BK173.out 1).trans rfl; have hcz26_2 : w24.cell? ⟨gb173, 2, none⟩ = some (.int .i64 0) := (blk_cell BK173.out 2).trans rfl; have hcz26_3 : w24.cell? ⟨gb173, 3, none⟩ = some (.int .i64 0) := (blk_cell BK173.out 3).trans rfl; have hcz26_4 : w24.cell? ⟨gb173, 4, none⟩ = some (.int .i64 0) := (blk_cell BK173.out 4).trans rfl; have hcz26_5 : w24.cell? ⟨gb173, 5, none⟩ = some (.int .i64 0) := (blk_cell BK173.out 5).trans rfl; have hcz26_6 : w24.cell? ⟨gb173, 6, none⟩ = some (.int .i64 0) := (blk_cell BK173.out 6).trans rfl; have hcz26_7 : w24.cell? ⟨gb173, 7, none⟩ = some (.int .i64 0) := (blk_cell BK173.out 7).trans rfl; have hcz26_8 : w24.cell? ⟨gb173, 8, none⟩ = some (.int .i64 0) := (blk_cell BK173.out 8).trans rfl; have hcz26_9 : w24.cell? ⟨gb173, 9, none⟩ = some (.int .i64 0) := (blk_cell BK173.out 9).trans rfl; have hcz26_10 : w24.cell? ⟨gb173, 10, none⟩ = some (.int .i64 0) := (blk_cell BK173.out 10).trans rfl; have hfz26_0 := blk_frozen BK173.out 0; have hfz26_1 := blk_frozen BK173.out 1; have hfz26_2 := blk_frozen BK173.out 2; have hfz26_3 := blk_frozen BK173.out 3; have hfz26_4 := blk_frozen BK173.out 4; have hfz26_5 := blk_frozen BK173.out 5; have hfz26_6 := blk_frozen BK173.out 6; have hfz26_7 := blk_frozen BK173.out 7; have hfz26_8 := blk_frozen BK173.out 8; have hfz26_9 := blk_frozen BK173.out 9; have hfz26_10 := blk_frozen BK173.out 10))
           have n0_ : Aside0 ((((((((((((w24.setCell ⟨gb173, 0, none⟩ (.string ((rd_T42 l0_1 x10_1).f0))).setCell ⟨gb173, 1, none⟩ (.int .i64 ((rd_T42 l0_1 x10_1).f1))).setCell ⟨gb173, 2, none⟩ (.int .i64 ((rd_T42 l0_1 x10_1).f2))).setCell ⟨gb173, 3, none⟩ (.int .i64 ((rd_T42 l0_1 x10_1).f3))).setCell ⟨gb173, 4, none⟩ (.int .i64 ((rd_T42 l0_1 x10_1).f4))).setCell ⟨gb173, 5, none⟩ (.int .i64 ((rd_T42 l0_1 x10_1).f5))).setCell ⟨gb173, 6, none⟩ (.int .i64 ((rd_T42 l0_1 x10_1).f6))).setCell ⟨gb173, 7, none⟩ (.int .i64 ((rd_T42 l0_1 x10_1).f7))).setCell ⟨gb173, 8, none⟩ (.int .i64 ((rd_T42 l0_1 x10_1).f8))).setCell ⟨gb173, 9, none⟩ (.int .i64 ((rd_T42 l0_1 x10_1).f9))).setCell ⟨gb173, 10, none⟩ (.int .i64 ((rd_T42 l0_1 x10_1).f10))).heap[gb166]? = some (.cells #[.int .i64 a0_0, .slice (some ad167) l0_1.length c0_1] 24 (0, 0))) := ⟨by (with_reducible repeat (first | refine blk_drewN ?_ _ | refine blk_drew ?_ | refine blk_alloc ?_ _)); refine blk_far ?_ NB166_173.out _; (with_reducible repeat (first | refine blk_drewN ?_ _ | refine blk_drew ?_ | refine blk_alloc ?_ _)); refine blk_far ?_ NB166_173.out _; (with_reducible repeat (first | refine blk_drewN ?_ _ | refine blk_drew ?_ | refine blk_alloc ?_ _)); refine blk_far ?_ NB166_173.out _; (with_reducible repeat (first | refine blk_drewN ?_ _ | refine blk_drew ?_ | refine blk_alloc ?_ _)); refine blk_far ?_ NB166_173.out _; (with_reducible repeat (first | refine blk_drewN ?_ _ | refine blk_drew ?_ | refine blk_alloc ?_ _)); refine blk_far ?_ NB166_173.out _; (with_reducible repeat (first | refine blk_drewN ?_ _ | refine blk_drew ?_ | refine blk_alloc ?_ _)); refine blk_far ?_ NB166_173.out _; (with_reducible repeat (first | refine blk_drewN ?_ _ | refine blk_drew ?_ | refine blk_alloc ?_ _)); refine blk_far ?_ NB166_173.out _; (with_reducible repeat (first | refine blk_drewN ?_ _ | refine blk_drew ?_ | refine blk_alloc ?_ _)); refine blk_far ?_ NB166_173.out _; (with_reducible repeat (first | refine blk_drewN ?_ _ | refine blk_drew ?_ | refine blk_alloc ?_ _)); refine blk_far ?_ NB166_173.out _; (with_reducible repeat (first | refine blk_drewN ?_ _ | refine blk_drew ?_ | refine blk_alloc ?_ _)); refine blk_far ?_ NB166_173.out _; (with_reducible repeat (first | refine blk_drewN ?_ _ | refine blk_drew ?_ | refine blk_alloc ?_ _)); refine blk_far ?_ NB166_173.out _; (with_reducible repeat (first | refine blk_drewN ?_ _ | refine blk_drew ?_ | refine blk_alloc ?_ _)); exact BK166.out⟩
           have n1_ : Aside0 ((((((((((((w24.setCell ⟨gb173, 0, none⟩ (.string ((rd_T42 l0_1 x10_1).f0))).setCell ⟨gb173, 1, none⟩ (.int .i64 ((rd_T42 l0_1 x10_1).f1))).setCell ⟨gb173, 2, none⟩ (.int .i64 ((rd_T42 l0_1 x10_1).f2))).setCell ⟨gb173, 3, none⟩ (.int .i64 ((rd_T42 l0_1 x10_1).f3))).setCell ⟨gb173, 4, none⟩ (.int .i64 ((rd_T42 l0_1 x10_1).f4))).setCell ⟨gb173, 5, none⟩ (.int .i64 ((rd_T42 l0_1 x10_1).f5))).setCell ⟨gb173, 6, none⟩ (.int .i64 ((rd_T42 l0_1 x10_1).f6))).setCell ⟨gb173, 7, none⟩ (.int .i64 ((rd_T42 l0_1 x10_1).f7))).setCell ⟨gb173, 8, none⟩ (.int .i64 ((rd_T42 l0_1 x10_1).f8))).setCell ⟨gb173, 9, none⟩ (.int .i64 ((rd_T42 l0_1 x10_1).f9))).setCell ⟨gb173, 10, none⟩ (.int .i64 ((rd_T42 l0_1 x10_1).f10))).heap[gb173]? = some (.cells #[.string ((rd_T42 l0_1 x10_1).f0), .int .i64 ((rd_T42 l0_1 x10_1).f1), .int .i64 ((rd_T42 l0_1 x10_1).f2), .int .i64 ((rd_T42 l0_1 x10_1).f3), .int .i64 ((rd_T42 l0_1 x10_1).f4), .int .i64 ((rd_T42 l0_1 x10_1).f5), .int .i64 ((rd_T42 l0_1 x10_1).f6), .int .i64 ((rd_T42 l0_1 x10_1).f7), .int .i64 ((rd_T42 l0_1 x10_1).f8), .int .i64 ((rd_T42 l0_1 x10_1).f9), .int .i64 ((rd_T42 l0_1 x10_1).f10)] 42 (0, 0))) := ⟨by (with_reducible repeat (first | refine blk_drewN ?_ _ | refine blk_drew ?_ | refine blk_alloc ?_ _)); refine blk_put (cs := #[.string ((rd_T42 l0_1 x10_1).f0), .int .i64 ((rd_T42 l0_1 x10_1).f1), .int .i64 ((rd_T42 l0_1 x10_1).f2), .int .i64 ((rd_T42 l0_1 x10_1).f3), .int .i64 ((rd_T42 l0_1 x10_1).f4), .int .i64 ((rd_T42 l0_1 x10_1).f5), .int .i64 ((rd_T42 l0_1 x10_1).f6), .int .i64 ((rd_T42 l0_1 x10_1).f7), .int .i64 ((rd_T42 l0_1 x10_1).f8), .int .i64 ((rd_T42 l0_1 x10_1).f9), .int .i64 0]) ?_ 10 _ rfl; (with_reducible repeat (first | refine blk_drewN ?_ _ | refine blk_drew ?_ | refine blk_alloc ?_ _)); refine blk_put (cs := #[.string ((rd_T42 l0_1 x10_1).f0), .int .i64 ((rd_T42 l0_1 x10_1).f1), .int .i64 ((rd_T42 l0_1 x10_1).f2), .int .i64 ((rd_T42 l0_1 x10_1).f3), .int .i64 ((rd_T42 l0_1 x10_1).f4), .int .i64 ((rd_T42 l0_1 x10_1).f5), .int .i64 ((rd_T42 l0_1 x10_1).f6), .int .i64 ((rd_T42 l0_1 x10_1).f7), .int .i64 ((rd_T42 l0_1 x10_1).f8), .int .i64 0, .int .i64 0]) ?_ 9 _ rfl; (with_reducible repeat (first | refine blk_drewN ?_ _ | refine blk_drew ?_ | refine blk_alloc ?_ _)); refine blk_put (cs := #[.string ((rd_T42 l0_1 x10_1).f0), .int .i64 ((rd_T42 l0_1 x10_1).f1), .int .i64 ((rd_T42 l0_1 x10_1).f2), .int .i64 ((rd_T42 l0_1 x10_1).f3), .int .i64 ((rd_T42 l0_1 x10_1).f4), .int .i64 ((rd_T42 l0_1 x10_1).f5), .int .i64 ((rd_T42 l0_1 x10_1).f6), .int .i64 ((rd_T42 l0_1 x10_1).f7), .int .i64 0, .int .i64 0, .int .i64 0]) ?_ 8 _ rfl; (with_reducible repeat (first | refine blk_drewN ?_ _ | refine blk_drew ?_ | refine blk_alloc ?_ _)); refine blk_put (cs := #[.string ((rd_T42 l0_1 x10_1).f0), .int .i64 ((rd_T42 l0_1 x10_1).f1), .int .i64 ((rd_T42 l0_1 x10_1).f2), .int .i64 ((rd_T42 l0_1 x10_1).f3), .int .i64 ((rd_T42 l0_1 x10_1).f4), .int .i64 ((rd_T42 l0_1 x10_1).f5), .int .i64 ((rd_T42 l0_1 x10_1).f6), .int .i64 0, .int .i64 0, .int .i64 0, .int .i64 0]) ?_ 7 _ rfl; (with_reducible repeat (first | refine blk_drewN ?_ _ | refine blk_drew ?_ | refine blk_alloc ?_ _)); refine blk_put (cs := #[.string ((rd_T42 l0_1 x10_1).f0), .int .i64 ((rd_T42 l0_1 x10_1).f1), .int .i64 ((rd_T42 l0_1 x10_1).f2), .int .i64 ((rd_T42 l0_1 x10_1).f3), .int .i64 ((rd_T42 l0_1 x10_1).f4), .int .i64 ((rd_T42 l0_1 x10_1).f5), .int .i64 0, .int .i64 0, .int .i64 0, .int .i64 0, .int .i64 0]) ?_ 6 _ rfl; (with_reducible repeat (first | refine blk_drewN ?_ _ | refine blk_drew ?_ | refine blk_alloc ?_ _)); refine blk_put (cs := #[.string ((rd_T42 l0_1 x10_1).f0), .int .i64 ((rd_T42 l0_1 x10_1).f1), .int .i64 ((rd_T42 l0_1 x10_1).f2), .int .i64 ((rd_T42 l0_1 x10_1).f3), .int .i64 ((rd_T42 l0_1 x10_1).f4), .int .i64 0, .int .i64 0, .int .i64 0, .int .i64 0, .int .i64 0, .int .i64 0]) ?_ 5 _ rfl; (with_reducible repeat (first | refine blk_drewN ?_ _ | refine blk_drew ?_ | refine blk_alloc ?_ _)); refine blk_put (cs := #[.string ((rd_T42 l0_1 x10_1).f0), .int .i64 ((rd_T42 l0_1 x10_1).f1), .int .i64 ((rd_T42 l0_1 x10_1).f2), .int .i64 ((rd_T42 l0_1 x10_1).f3), .int .i64 0, .int .i64 0, .int .i64 0, .int .i64 0, .int .i64 0, .int .i64 0, .int .i64 0]) ?_ 4 _ rfl; (with_reducible repeat (first | refine blk_drewN ?_ _ | refine blk_drew ?_ | refine blk_alloc ?_ _)); refine blk_put (cs := #[.string ((rd_T42 l0_1 x10_1).f0), .int .i64 ((rd_T42 l0_1 x10_1).f1), .int .i64 ((rd_T42 l0_1 x10_1).f2), .int .i64 0, .int .i64 0, .int .i64 0, .int .i64 0, .int .i64 0, .int .i64 0, .int .i64 0, .int .i64 0]) ?_ 3 _ rfl; (with_reducible repeat (first | refine blk_drewN ?_ _ | refine blk_drew ?_ | refine blk_alloc ?_ _)); refine blk_put (cs := #[.string ((rd_T42 l0_1 x10_1).f0), .int .i64 ((rd_T42 l0_1 x10_1).f1), .int .i64 0, .int .i64 0, .int .i64 0, .int .i64 0, .int .i64 0, .int .i64 0, .int .i64 0, .int .i64 0, .int .i64 0]) ?_ 2 _ rfl; (with_reducible repeat (first | refine blk_drewN ?_ _ | refine blk_drew ?_ | refine blk_alloc ?_ _)); refine blk_put (cs := #[.string ((rd_T42 l0_1 x10_1).f0), .int .i64 0, .int .i64 0, .int .i64 0, .int .i64 0, .int .i64 0, .int .i64 0, .int .i64 0, .int .i64 0, .int .i64 0, .int .i64 0]) ?_ 1 _ rfl; (with_reducible repeat (first | refine blk_drewN ?_ _ | refine blk_drew ?_ | refine blk_alloc ?_ _)); refine blk_put (cs := #[.string (⟨#[]⟩ : ByteArray), .int .i64 0, .int .i64 0, .int .i64 0, .int .i64 0, .int .i64 0, .int .i64 0, .int .i64 0, .int .i64 0, .int .i64 0, .int .i64 0]) ?_ 0 _ rfl; (with_reducible repeat (first | refine blk_drewN ?_ _ | refine blk_drew ?_ | refine blk_alloc ?_ _)); exact BK173.out⟩
           have n2_ : Aside0 (Below w.heap.size w (((((((((((w24.setCell ⟨gb173, 0, none⟩ (.string ((rd_T42 l0_1 x10_1).f0))).setCell ⟨gb173, 1, none⟩ (.int .i64 ((rd_T42 l0_1 x10_1).f1))).setCell ⟨gb173, 2, none⟩ (.int .i64 ((rd_T42 l0_1 x10_1).f2))).setCell ⟨gb173, 3, none⟩ (.int .i64 ((rd_T42 l0_1 x10_1).f3))).setCell ⟨gb173, 4, none⟩ (.int .i64 ((rd_T42 l0_1 x10_1).f4))).setCell ⟨gb173, 5, none⟩ (.int .i64 ((rd_T42 l0_1 x10_1).f5))).setCell ⟨gb173, 6, none⟩ (.int .i64 ((rd_T42 l0_1 x10_1).f6))).setCell ⟨gb173, 7, none⟩ (.int .i64 ((rd_T42 l0_1 x10_1).f7))).setCell ⟨gb173, 8, none⟩ (.int .i64 ((rd_T42 l0_1 x10_1).f8))).setCell ⟨gb173, 9, none⟩ (.int .i64 ((rd_T42 l0_1 x10_1).f9))).setCell ⟨gb173, 10, none⟩ (.int .i64 ((rd_T42 l0_1 x10_1).f10)))) := ⟨by repeat (first | (with_reducible first | exact HB.out | apply below_alloc | apply pw_below_drewN | apply below_drew1 | refine below_set ?_ GE166.out | refine below_set ?_ GE173.out) | exact HB.out)⟩
           (try clear BK166)
           (try clear BK173)
           (try clear HB)
           generalize (((((((((((w24.setCell ⟨gb173, 0, none⟩ (.string ((rd_T42 l0_1 x10_1).f0))).setCell ⟨gb173, 1, none⟩ (.int .i64 ((rd_T42 l0_1 x10_1).f1))).setCell ⟨gb173, 2, none⟩ (.int .i64 ((rd_T42 l0_1 x10_1).f2))).setCell ⟨gb173, 3, none⟩ (.int .i64 ((rd_T42 l0_1 x10_1).f3))).setCell ⟨gb173, 4, none⟩ (.int .i64 ((rd_T42 l0_1 x10_1).f4))).setCell ⟨gb173, 5, none⟩ (.int .i64 ((rd_T42 l0_1 x10_1).f5))).setCell ⟨gb173, 6, none⟩ (.int .i64 ((rd_T42 l0_1 x10_1).f6))).setCell ⟨gb173, 7, none⟩ (.int .i64 ((rd_T42 l0_1 x10_1).f7))).setCell ⟨gb173, 8, none⟩ (.int .i64 ((rd_T42 l0_1 x10_1).f8))).setCell ⟨gb173, 9, none⟩ (.int .i64 ((rd_T42 l0_1 x10_1).f9))).setCell ⟨gb173, 10, none⟩ (.int .i64 ((rd_T42 l0_1 x10_1).f10))) = w27 at n0_ n1_ n2_ ⊢
           have BK166 := n0_
           have BK173 := n1_
           have HB := n2_
           clear n0_ n1_ n2_
           have n0_ := Aside0.mk (blk_drew BK166.out)
           have n1_ := Aside0.mk (blk_drew BK173.out)
           have n2_ := Aside0.mk (below_drew1 HB.out)
           clear BK166
           clear BK173
           clear HB
           have BK166 := n0_
           have BK173 := n1_
           have HB := n2_
           clear n0_ n1_ n2_
           have p174 : 0 ≤ (a1 : Int) := of_decide_eq_true (by first | (with_reducible assumption) | assumption)
           have q174 : a1 < (l0_1.length : Int) := of_decide_eq_true (by first | (with_reducible assumption) | assumption)
           obtain ⟨ad174, e174, hx174_0, hx174_1, hx174_2, hx174_3, hx174_4, hx174_5, hx174_6, hx174_7, hx174_8, hx174_9, hx174_10⟩ := at_T42 HR0_1.out a1 p174 q174
           have hw174_10 := hx174_10
           have hw174_9 := hx174_9
           have hw174_8 := hx174_8
           have hw174_7 := hx174_7
           have hw174_6 := hx174_6
           have hw174_5 := hx174_5
           have hw174_4 := hx174_4
           have hw174_3 := hx174_3
           have hw174_2 := hx174_2
           have hw174_1 := hx174_1
           have hw174_0 := hx174_0
           obtain rfl : ad167 = ad174 := (by injection e174)
           replace hx174_0 := (HB.out.cell (World.block_lt_of_cell? w _ hx174_0)).trans hx174_0
           replace hx174_1 := (HB.out.cell (World.block_lt_of_cell? w _ hx174_1)).trans hx174_1
           replace hx174_2 := (HB.out.cell (World.block_lt_of_cell? w _ hx174_2)).trans hx174_2
           replace hx174_3 := (HB.out.cell (World.block_lt_of_cell? w _ hx174_3)).trans hx174_3
           replace hx174_4 := (HB.out.cell (World.block_lt_of_cell? w _ hx174_4)).trans hx174_4
           replace hx174_5 := (HB.out.cell (World.block_lt_of_cell? w _ hx174_5)).trans hx174_5
           replace hx174_6 := (HB.out.cell (World.block_lt_of_cell? w _ hx174_6)).trans hx174_6
           replace hx174_7 := (HB.out.cell (World.block_lt_of_cell? w _ hx174_7)).trans hx174_7
           replace hx174_8 := (HB.out.cell (World.block_lt_of_cell? w _ hx174_8)).trans hx174_8
           replace hx174_9 := (HB.out.cell (World.block_lt_of_cell? w _ hx174_9)).trans hx174_9
           replace hx174_10 := (HB.out.cell (World.block_lt_of_cell? w _ hx174_10)).trans hx174_10
           replace p174 := eq_true p174
           replace q174 := eq_true q174
           refine start_ (n := 9) (S := fun w' => w'.cell? ⟨gb173, 0, none⟩ = some (.string ((rd_T42 l0_1 x10_1).f0)) ∧ w'.cell? ⟨gb173, 1, none⟩ = some (.int .i64 ((rd_T42 l0_1 x10_1).f1)) ∧ w'.cell? ⟨gb173, 2, none⟩ = some (.int .i64 ((rd_T42 l0_1 x10_1).f2)) ∧ w'.cell? ⟨gb173, 3, none⟩ = some (.int .i64 ((rd_T42 l0_1 x10_1).f3)) ∧ w'.cell? ⟨gb173, 4, none⟩ = some (.int .i64 ((rd_T42 l0_1 x10_1).f4)) ∧ w'.cell? ⟨gb173, 5, none⟩ = some (.int .i64 ((rd_T42 l0_1 x10_1).f5)) ∧ w'.cell? ⟨gb173, 6, none⟩ = some (.int .i64 ((rd_T42 l0_1 x10_1).f6)) ∧ w'.cell? ⟨gb173, 7, none⟩ = some (.int .i64 ((rd_T42 l0_1 x10_1).f7)) ∧ w'.cell? ⟨gb173, 8, none⟩ = some (.int .i64 ((rd_T42 l0_1 x10_1).f8)) ∧ w'.cell? ⟨gb173, 9, none⟩ = some (.int .i64 ((rd_T42 l0_1 x10_1).f9)) ∧ w'.cell? ⟨gb173, 10, none⟩ = some (.int .i64 ((rd_T42 l0_1 x10_1).f10)) ∧ w'.cell? ⟨gb166, 0, none⟩ = some (.int .i64 a0_0) ∧ w'.cell? ⟨gb166, 1, none⟩ = some (.slice (some ad167) l0_1.length c0_1) ∧ w'.cell? (ad167.add ((a1).toNat * 11)) = some (.string ((rd_T42 l0_1 a1).f0)) ∧ w'.cell? ⟨(ad167.add ((a1).toNat * 11)).block, (ad167.add ((a1).toNat * 11)).off + 1, none⟩ = some (.int .i64 ((rd_T42 l0_1 a1).f1)) ∧ w'.cell? ⟨(ad167.add ((a1).toNat * 11)).block, (ad167.add ((a1).toNat * 11)).off + 2, none⟩ = some (.int .i64 ((rd_T42 l0_1 a1).f2)) ∧ w'.cell? ⟨(ad167.add ((a1).toNat * 11)).block, (ad167.add ((a1).toNat * 11)).off + 3, none⟩ = some (.int .i64 ((rd_T42 l0_1 a1).f3)) ∧ w'.cell? ⟨(ad167.add ((a1).toNat * 11)).block, (ad167.add ((a1).toNat * 11)).off + 4, none⟩ = some (.int .i64 ((rd_T42 l0_1 a1).f4)) ∧ w'.cell? ⟨(ad167.add ((a1).toNat * 11)).block, (ad167.add ((a1).toNat * 11)).off + 5, none⟩ = some (.int .i64 ((rd_T42 l0_1 a1).f5)) ∧ w'.cell? ⟨(ad167.add ((a1).toNat * 11)).block, (ad167.add ((a1).toNat * 11)).off + 6, none⟩ = some (.int .i64 ((rd_T42 l0_1 a1).f6)) ∧ w'.cell? ⟨(ad167.add ((a1).toNat * 11)).block, (ad167.add ((a1).toNat * 11)).off + 7, none⟩ = some (.int .i64 ((rd_T42 l0_1 a1).f7)) ∧ w'.cell? ⟨(ad167.add ((a1).toNat * 11)).block, (ad167.add ((a1).toNat * 11)).off + 8, none⟩ = some (.int .i64 ((rd_T42 l0_1 a1).f8)) ∧ w'.cell? ⟨(ad167.add ((a1).toNat * 11)).block, (ad167.add ((a1).toNat * 11)).off + 9, none⟩ = some (.int .i64 ((rd_T42 l0_1 a1).f9)) ∧ w'.cell? ⟨(ad167.add ((a1).toNat * 11)).block, (ad167.add ((a1).toNat * 11)).off + 10, none⟩ = some (.int .i64 ((rd_T42 l0_1 a1).f10))) (ds := []) #[false, false, false, false, false, false, false, false, false] (by kernel_rfl) rfl rfl ⟨(blk_cell BK173.out 0).trans rfl, (blk_cell BK173.out 1).trans rfl, (blk_cell BK173.out 2).trans rfl, (blk_cell BK173.out 3).trans rfl, (blk_cell BK173.out 4).trans rfl, (blk_cell BK173.out 5).trans rfl, (blk_cell BK173.out 6).trans rfl, (blk_cell BK173.out 7).trans rfl, (blk_cell BK173.out 8).trans rfl, (blk_cell BK173.out 9).trans rfl, (blk_cell BK173.out 10).trans rfl, (blk_cell BK166.out 0).trans rfl, (blk_cell BK166.out 1).trans rfl, ((HB.out.cell (World.block_lt_of_cell? w _ hw174_0)).trans hw174_0), ((HB.out.cell (World.block_lt_of_cell? w _ hw174_1)).trans hw174_1), ((HB.out.cell (World.block_lt_of_cell? w _ hw174_2)).trans hw174_2), ((HB.out.cell (World.block_lt_of_cell? w _ hw174_3)).trans hw174_3), ((HB.out.cell (World.block_lt_of_cell? w _ hw174_4)).trans hw174_4), ((HB.out.cell (World.block_lt_of_cell? w _ hw174_5)).trans hw174_5), ((HB.out.cell (World.block_lt_of_cell? w _ hw174_6)).trans hw174_6), ((HB.out.cell (World.block_lt_of_cell? w _ hw174_7)).trans hw174_7), ((HB.out.cell (World.block_lt_of_cell? w _ hw174_8)).trans hw174_8), ((HB.out.cell (World.block_lt_of_cell? w _ hw174_9)).trans hw174_9), ((HB.out.cell (World.block_lt_of_cell? w _ hw174_10)).trans hw174_10)⟩ (fun hHeld => ?_); refine with_tabW pendulumref19_Next.tab6 pendulumref19_Next.bits6 (fun HT_ HW_ => ?_)
           generalize w27.drew = w28 at BK166 BK173 HB hx174_0 hx174_1 hx174_10 hx174_2 hx174_3 hx174_4 hx174_5 hx174_6 hx174_7 hx174_8 hx174_9 hHeld ⊢
           refine pure_ (i := 0) (N := some 47) (v := ?_) (a' := ?_) #[true, false, false, false, false, false, false, false, false] rfl rfl (any_of HT_.out (by kernel_rfl)) (fun _ _ _ h => h) (Or.inl ⟨by rfl, ?_⟩) ?_ ?_
           rotate_left
           ·intro w'
            go_simp
            with_reducible rfl
           rotate_left
           ·simp only [Act.put, List.setIfInBounds_toArray, List.set_cons_zero, List.set_cons_succ, i64_w, i32_w]
            rfl
           refine pure_ (i := 2) (N := some 49) (v := ?_) (a' := ?_) #[true, false, true, false, false, false, false, false, false] rfl rfl (any_of HT_.out (by kernel_rfl)) (fun _ _ _ h => h) (Or.inl ⟨by rfl, ?_⟩) ?_ ?_
           rotate_left
           ·intro w'
            go_simp
            with_reducible rfl
           rotate_left
           ·simp only [Act.put, List.setIfInBounds_toArray, List.set_cons_zero, List.set_cons_succ, i64_w, i32_w]
            rfl
           refine pure_ (i := 4) (N := some 51) (v := ?_) (a' := ?_) #[true, false, true, false, true, false, false, false, false] rfl rfl (any_of HT_.out (by kernel_rfl)) (fun _ _ _ h => h) (Or.inl ⟨by rfl, ?_⟩) ?_ ?_
           rotate_left
           ·intro w'
            go_simp
            with_reducible rfl
           rotate_left
           ·simp only [Act.put, List.setIfInBounds_toArray, List.set_cons_zero, List.set_cons_succ, i64_w, i32_w]
            rfl
           refine take_ (i := 1) (N := some 48) (v := ?_) (a' := ?_) #[true, true, true, false, true, false, false, false, false] rfl rfl (take_ofW HT_.out HW_.out (by kernel_rfl)) (fun _ _ _ h => h) (Or.inl ⟨by rfl, ?_⟩) hHeld ?_ ?_
           rotate_left
           ·rintro w' ⟨s0, s1, s2, s3, s4, s5, s6, s7, s8, s9, s10, s11, s12, s13, s14, s15, s16, s17, s18, s19, s20, s21, s22, s23⟩
            go_simp
            with_reducible rfl
           rotate_left
           ·simp only [Act.put, List.setIfInBounds_toArray, List.set_cons_zero, List.set_cons_succ, i64_w, i32_w]
            rfl
           refine take_ (i := 3) (N := some 50) (v := ?_) (a' := ?_) #[true, true, true, true, true, false, false, false, false] rfl rfl (take_ofW HT_.out HW_.out (by kernel_rfl)) (fun _ _ _ h => h) (Or.inl ⟨by rfl, ?_⟩) hHeld ?_ ?_
           rotate_left
           ·rintro w' ⟨s0, s1, s2, s3, s4, s5, s6, s7, s8, s9, s10, s11, s12, s13, s14, s15, s16, s17, s18, s19, s20, s21, s22, s23⟩
            go_simp
            with_reducible rfl
           rotate_left
           ·simp only [Act.put, List.setIfInBounds_toArray, List.set_cons_zero, List.set_cons_succ, i64_w, i32_w]
            rfl
           refine pure_ (i := 5) (N := some 52) (v := ?_) (a' := ?_) #[true, true, true, true, true, true, false, false, false] rfl rfl (any_of HT_.out (by kernel_rfl)) (fun _ _ _ h => h) (Or.inl ⟨by rfl, ?_⟩) ?_ ?_
           rotate_left
           ·intro w'
            go_simp
            with_reducible rfl
           rotate_left
           ·simp only [Act.put, List.setIfInBounds_toArray, List.set_cons_zero, List.set_cons_succ, i64_w, i32_w]
            rfl
           refine pure_ (i := 6) (N := some 53) (v := ?_) (a' := ?_) #[true, true, true, true, true, true, true, false, false] rfl rfl (any_of HT_.out (by kernel_rfl)) (fun _ _ _ h => h) (Or.inl ⟨by rfl, ?_⟩) ?_ ?_
           rotate_left
           ·intro w'
            go_simp
            with_reducible rfl
           rotate_left
           ·simp only [Act.put, List.setIfInBounds_toArray, List.set_cons_zero, List.set_cons_succ, i64_w, i32_w]
            rfl
           refine take_ (i := 7) (N := some 54) (v := ?_) (a' := ?_) #[true, true, true, true, true, true, true, true, false] rfl rfl (take_ofW HT_.out HW_.out (by kernel_rfl)) (fun _ _ _ h => h) (Or.inl ⟨by rfl, ?_⟩) hHeld ?_ ?_
           rotate_left
           ·rintro w' ⟨s0, s1, s2, s3, s4, s5, s6, s7, s8, s9, s10, s11, s12, s13, s14, s15, s16, s17, s18, s19, s20, s21, s22, s23⟩
            go_simp
            with_reducible rfl
           rotate_left
           ·simp only [Act.put, List.setIfInBounds_toArray, List.set_cons_zero, List.set_cons_succ, i64_w, i32_w]
            rfl
           refine pure_ (i := 8) (N := some 55) (v := ?_) (a' := ?_) #[true, true, true, true, true, true, true, true, true] rfl rfl (any_of HT_.out (by kernel_rfl)) (fun _ _ _ h => h) (Or.inl ⟨by rfl, ?_⟩) ?_ ?_
           rotate_left
           ·intro w'
            go_simp
            with_reducible rfl
           rotate_left
           ·simp only [Act.put, List.setIfInBounds_toArray, List.set_cons_zero, List.set_cons_succ, i64_w, i32_w]
            rfl
           refine done_ (done_of HT_.out (by kernel_rfl)) ?_
           try go_wp2
           have n0_ := Aside0.mk (blk_drew BK166.out)
           have n1_ := Aside0.mk (blk_drew BK173.out)
           have n2_ := Aside0.mk (below_drew1 HB.out)
           clear BK166
           clear BK173
           clear HB
           have BK166 := n0_
           have BK173 := n1_
           have HB := n2_
           clear n0_ n1_ n2_
           refine start_ (n := 14) (S := fun w' => w'.cell? ⟨gb173, 0, none⟩ = some (.string ((rd_T42 l0_1 x10_1).f0)) ∧ w'.cell? ⟨gb173, 1, none⟩ = some (.int .i64 ((rd_T42 l0_1 x10_1).f1)) ∧ w'.cell? ⟨gb173, 2, none⟩ = some (.int .i64 ((rd_T42 l0_1 x10_1).f2)) ∧ w'.cell? ⟨gb173, 3, none⟩ = some (.int .i64 ((rd_T42 l0_1 x10_1).f3)) ∧ w'.cell? ⟨gb173, 4, none⟩ = some (.int .i64 ((rd_T42 l0_1 x10_1).f4)) ∧ w'.cell? ⟨gb173, 5, none⟩ = some (.int .i64 ((rd_T42 l0_1 x10_1).f5)) ∧ w'.cell? ⟨gb173, 6, none⟩ = some (.int .i64 ((rd_T42 l0_1 x10_1).f6)) ∧ w'.cell? ⟨gb173, 7, none⟩ = some (.int .i64 ((rd_T42 l0_1 x10_1).f7)) ∧ w'.cell? ⟨gb173, 8, none⟩ = some (.int .i64 ((rd_T42 l0_1 x10_1).f8)) ∧ w'.cell? ⟨gb173, 9, none⟩ = some (.int .i64 ((rd_T42 l0_1 x10_1).f9)) ∧ w'.cell? ⟨gb173, 10, none⟩ = some (.int .i64 ((rd_T42 l0_1 x10_1).f10))) (ds := []) #[false, false, false, false, false, false, false, false, false, false, false, false, false, false] (by kernel_rfl) rfl rfl ⟨(blk_cell BK173.out 0).trans rfl, (blk_cell BK173.out 1).trans rfl, (blk_cell BK173.out 2).trans rfl, (blk_cell BK173.out 3).trans rfl, (blk_cell BK173.out 4).trans rfl, (blk_cell BK173.out 5).trans rfl, (blk_cell BK173.out 6).trans rfl, (blk_cell BK173.out 7).trans rfl, (blk_cell BK173.out 8).trans rfl, (blk_cell BK173.out 9).trans rfl, (blk_cell BK173.out 10).trans rfl⟩ (fun hHeld => ?_); refine with_tabW pendulumref19_Next.tab7 pendulumref19_Next.bits7 (fun HT_ HW_ => ?_)
           generalize w28.drew = w29 at BK166 BK173 HB hHeld ⊢
           refine pure_ (i := 0) (N := some 56) (v := ?_) (a' := ?_) #[true, false, false, false, false, false, false, false, false, false, false, false, false, false] rfl rfl (any_of HT_.out (by kernel_rfl)) (fun _ _ _ h => h) (Or.inl ⟨by rfl, ?_⟩) ?_ ?_
           rotate_left
           ·intro w'
            go_simp
            with_reducible rfl
           rotate_left
           ·simp only [Act.put, List.setIfInBounds_toArray, List.set_cons_zero, List.set_cons_succ, i64_w, i32_w]
            rfl
           refine pure_ (i := 1) (N := some 57) (v := ?_) (a' := ?_) #[true, true, false, false, false, false, false, false, false, false, false, false, false, false] rfl rfl (any_of HT_.out (by kernel_rfl)) (fun _ _ _ h => h) (Or.inl ⟨by rfl, ?_⟩) ?_ ?_
           rotate_left
           ·intro w'
            go_simp
            with_reducible rfl
           rotate_left
           ·simp only [Act.put, List.setIfInBounds_toArray, List.set_cons_zero, List.set_cons_succ, i64_w, i32_w]
            rfl
           refine pure_ (i := 2) (N := some 58) (v := ?_) (a' := ?_) #[true, true, true, false, false, false, false, false, false, false, false, false, false, false] rfl rfl (any_of HT_.out (by kernel_rfl)) (fun _ _ _ h => h) (Or.inl ⟨by rfl, ?_⟩) ?_ ?_
           rotate_left
           ·intro w'
            go_simp
            with_reducible rfl
           rotate_left
           ·simp only [Act.put, List.setIfInBounds_toArray, List.set_cons_zero, List.set_cons_succ, i64_w, i32_w]
            rfl
           refine pure_ (i := 6) (N := some 62) (v := ?_) (a' := ?_) #[true, true, true, false, false, false, true, false, false, false, false, false, false, false] rfl rfl (any_of HT_.out (by kernel_rfl)) (fun _ _ _ h => h) (Or.inl ⟨by rfl, ?_⟩) ?_ ?_
           rotate_left
           ·intro w'
            go_simp
            with_reducible rfl
           rotate_left
           ·simp only [Act.put, List.setIfInBounds_toArray, List.set_cons_zero, List.set_cons_succ, i64_w, i32_w]
            rfl
           refine take_ (i := 3) (N := some 59) (v := ?_) (a' := ?_) #[true, true, true, true, false, false, true, false, false, false, false, false, false, false] rfl rfl (take_ofW HT_.out HW_.out (by kernel_rfl)) (fun _ _ _ h => h) (Or.inl ⟨by rfl, ?_⟩) hHeld ?_ ?_
           rotate_left
           ·rintro w' ⟨s0, s1, s2, s3, s4, s5, s6, s7, s8, s9, s10⟩
            go_simp
            with_reducible rfl
           rotate_left
           ·simp only [Act.put, List.setIfInBounds_toArray, List.set_cons_zero, List.set_cons_succ, i64_w, i32_w]
            rfl
           refine pure_ (i := 4) (N := some 60) (v := ?_) (a' := ?_) #[true, true, true, true, true, false, true, false, false, false, false, false, false, false] rfl rfl (any_of HT_.out (by kernel_rfl)) (fun _ _ _ h => h) (Or.inl ⟨by rfl, ?_⟩) ?_ ?_
           rotate_left
           ·intro w'
            go_simp
            with_reducible rfl
           rotate_left
           ·simp only [Act.put, List.setIfInBounds_toArray, List.set_cons_zero, List.set_cons_succ, i64_w, i32_w]
            rfl
           refine pure_ (i := 5) (N := some 61) (v := ?_) (a' := ?_) #[true, true, true, true, true, true, true, false, false, false, false, false, false, false] rfl rfl (any_of HT_.out (by kernel_rfl)) (fun _ _ _ h => h) (Or.inl ⟨by rfl, ?_⟩) ?_ ?_
           rotate_left
           ·intro w'
            go_simp
            with_reducible rfl
           rotate_left
           ·simp only [Act.put, List.setIfInBounds_toArray, List.set_cons_zero, List.set_cons_succ, i64_w, i32_w]
            rfl
           refine take_ (i := 7) (N := some 63) (v := ?_) (a' := ?_) #[true, true, true, true, true, true, true, true, false, false, false, false, false, false] rfl rfl (take_ofW HT_.out HW_.out (by kernel_rfl)) (fun _ _ _ h => h) (Or.inl ⟨by rfl, ?_⟩) hHeld ?_ ?_
           rotate_left
           ·rintro w' ⟨s0, s1, s2, s3, s4, s5, s6, s7, s8, s9, s10⟩
            go_simp
            with_reducible rfl
           rotate_left
           ·simp only [Act.put, List.setIfInBounds_toArray, List.set_cons_zero, List.set_cons_succ, i64_w, i32_w]
            rfl
           refine pure_ (i := 8) (N := some 64) (v := ?_) (a' := ?_) #[true, true, true, true, true, true, true, true, true, false, false, false, false, false] rfl rfl (any_of HT_.out (by kernel_rfl)) (fun _ _ _ h => h) (Or.inl ⟨by rfl, ?_⟩) ?_ ?_
           rotate_left
           ·intro w'
            go_simp
            with_reducible rfl
           rotate_left
           ·simp only [Act.put, List.setIfInBounds_toArray, List.set_cons_zero, List.set_cons_succ, i64_w, i32_w]
            rfl
           refine take_ (i := 9) (N := some 65) (v := ?_) (a' := ?_) #[true, true, true, true, true, true, true, true, true, true, false, false, false, false] rfl rfl (take_ofW HT_.out HW_.out (by kernel_rfl)) (fun _ _ _ h => h) (Or.inl ⟨by rfl, ?_⟩) hHeld ?_ ?_
           rotate_left
           ·rintro w' ⟨s0, s1, s2, s3, s4, s5, s6, s7, s8, s9, s10⟩
            go_simp
            with_reducible rfl
           rotate_left
           ·simp only [Act.put, List.setIfInBounds_toArray, List.set_cons_zero, List.set_cons_succ, i64_w, i32_w]
            rfl
           refine one_ (i := 10) (N := some 66) #[true, true, true, true, true, true, true, true, true, true, true, false, false, false] rfl rfl (one_of HT_.out (by kernel_rfl)) (by decide) (fun K hK => ?_)
           refine goes_ Tryd.func45 (by kernel_rfl) rfl #[.agg #[.string ((rd_T42 l0_1 x10_1).f0), .int .i64 ((rd_T42 l0_1 x10_1).f1), .int .i64 ((rd_T42 l0_1 x10_1).f2), .int .i64 ((rd_T42 l0_1 x10_1).f3), .int .i64 ((rd_T42 l0_1 x10_1).f4), .int .i64 ((rd_T42 l0_1 x10_1).f5), .int .i64 ((rd_T42 l0_1 x10_1).f6), .int .i64 ((rd_T42 l0_1 x10_1).f7), .int .i64 ((rd_T42 l0_1 x10_1).f8), .int .i64 ((rd_T42 l0_1 x10_1).f9), .int .i64 ((rd_T42 l0_1 x10_1).f10)]] (by rfl) rfl rfl (by (try simp only [List.map_toArray, List.map_cons, List.map_nil]); first | done | rfl | (simp only [List.length_drop, List.length_take]; rfl)) ?_
           with_reducible refine (pendulumref19_Whole.calls ((rd_T42 l0_1 x10_1).f0) ((rd_T42 l0_1 x10_1).f1) ((rd_T42 l0_1 x10_1).f2) ((rd_T42 l0_1 x10_1).f3) ((rd_T42 l0_1 x10_1).f4) ((rd_T42 l0_1 x10_1).f5) ((rd_T42 l0_1 x10_1).f6) ((rd_T42 l0_1 x10_1).f7) ((rd_T42 l0_1 x10_1).f8) ((rd_T42 l0_1 x10_1).f9) ((rd_T42 l0_1 x10_1).f10) t175 _ A22.out).mono ?_
           rintro e w30 ⟨rfl, hb⟩
           refine ⟨_, rfl, ?_⟩
           have n0_ := Aside0.mk (blk_below (g := gb166) (o := .cells #[.int .i64 a0_0, .slice (some ad167) l0_1.length c0_1] 24 (0, 0)) (by (with_reducible repeat (first | refine blk_drewN ?_ _ | refine blk_drew ?_ | refine blk_alloc ?_ _)); exact BK166.out) hb)
           have n1_ := Aside0.mk (blk_below (g := gb173) (o := .cells #[.string ((rd_T42 l0_1 x10_1).f0), .int .i64 ((rd_T42 l0_1 x10_1).f1), .int .i64 ((rd_T42 l0_1 x10_1).f2), .int .i64 ((rd_T42 l0_1 x10_1).f3), .int .i64 ((rd_T42 l0_1 x10_1).f4), .int .i64 ((rd_T42 l0_1 x10_1).f5), .int .i64 ((rd_T42 l0_1 x10_1).f6), .int .i64 ((rd_T42 l0_1 x10_1).f7), .int .i64 ((rd_T42 l0_1 x10_1).f8), .int .i64 ((rd_T42 l0_1 x10_1).f9), .int .i64 ((rd_T42 l0_1 x10_1).f10)] 42 (0, 0)) (by (with_reducible repeat (first | refine blk_drewN ?_ _ | refine blk_drew ?_ | refine blk_alloc ?_ _)); exact BK173.out) hb)
           have n2_ := Aside0.mk (below_step (by repeat (first | (with_reducible first | exact HB.out | apply below_alloc | apply pw_below_drewN | apply below_drew1 | refine below_set ?_ GE166.out | refine below_set ?_ GE173.out) | exact HB.out)) hb)
           clear BK166
           clear BK173
           clear HB
           have BK166 := n0_
           have BK173 := n1_
           have HB := n2_
           clear n0_ n1_ n2_
           (try clear hb)
           (try clear hb2)
           (try clear hk)
           (try clear hi)
           refine hK.out _ _ ⟨(blk_cell BK173.out 0).trans rfl, (blk_cell BK173.out 1).trans rfl, (blk_cell BK173.out 2).trans rfl, (blk_cell BK173.out 3).trans rfl, (blk_cell BK173.out 4).trans rfl, (blk_cell BK173.out 5).trans rfl, (blk_cell BK173.out 6).trans rfl, (blk_cell BK173.out 7).trans rfl, (blk_cell BK173.out 8).trans rfl, (blk_cell BK173.out 9).trans rfl, (blk_cell BK173.out 10).trans rfl⟩ (fun hHeld => ?_)
           clear hK K
           refine norm_ (a' := ?_) ?_ ?_
           rotate_left
           ·show Act.put _ (some 66) _ = _
            simp only [Act.put, List.setIfInBounds_toArray, List.set_cons_zero, List.set_cons_succ, i64_w, i32_w]
            rfl
           refine pure_ (i := 11) (N := some 67) (v := ?_) (a' := ?_) #[true, true, true, true, true, true, true, true, true, true, true, true, false, false] rfl rfl (any_of HT_.out (by kernel_rfl)) (fun _ _ _ h => h) (Or.inl ⟨by rfl, ?_⟩) ?_ ?_
           rotate_left
           ·intro w'
            go_simp
            with_reducible rfl
           rotate_left
           ·simp only [Act.put, List.setIfInBounds_toArray, List.set_cons_zero, List.set_cons_succ, i64_w, i32_w]
            rfl
           refine pure_ (i := 12) (N := some 68) (v := ?_) (a' := ?_) #[true, true, true, true, true, true, true, true, true, true, true, true, true, false] rfl rfl (any_of HT_.out (by kernel_rfl)) (fun _ _ _ h => h) (Or.inl ⟨by rfl, ?_⟩) ?_ ?_
           rotate_left
           ·intro w'
            go_simp
            with_reducible rfl
           rotate_left
           ·simp only [Act.put, List.setIfInBounds_toArray, List.set_cons_zero, List.set_cons_succ, i64_w, i32_w]
            rfl
           refine pure_ (i := 13) (N := some 9) (v := ?_) (a' := ?_) #[true, true, true, true, true, true, true, true, true, true, true, true, true, true] rfl rfl (any_of HT_.out (by kernel_rfl)) (fun _ _ _ h => h) (Or.inl ⟨by rfl, ?_⟩) ?_ ?_
           rotate_left
           ·intro w'
            go_simp
            with_reducible rfl
           rotate_left
           ·simp only [Act.put, List.setIfInBounds_toArray, List.set_cons_zero, List.set_cons_succ, i64_w, i32_w]
            rfl
           refine done_ (done_of HT_.out (by kernel_rfl)) ?_
           try go_wp2
           go_roundg k1
           case measure => have := HK1.out; omega
           case rel => exact ⟨(wrap64 (x9_1 + (wrap64 ((wrap64 (Int.tdiv (wrap64 ((wrap64 (a3 + ((rd_T42 l0_1 x10_1).f1))) - 1)) ((rd_T42 l0_1 x10_1).f1))) * t175)))), (wrap64 (x10_1 + 1)), (by first | rfl | (simp; done) | (simp [*]; done)), (by first | rfl | (simp; done) | (simp [*]; done)), H', ⟨by have := HK1.out; omega⟩, ⟨by (with_reducible repeat (first | refine blk_drewN ?_ _ | refine blk_drew ?_ | refine blk_alloc ?_ _)); exact BK166.out⟩, ⟨by repeat (first | (with_reducible first | exact HB.out | apply below_alloc | apply pw_below_drewN | apply below_drew1 | refine below_set ?_ GE166.out | refine below_set ?_ GE173.out) | exact HB.out)⟩⟩
         ·rw [if_neg c20] at H
          have c20b0 : decide (((rd_T42 l0_1 x10_1).f10) < ((rd_T42 l0_1 a1).f10)) = false := decide_eq_false c20
          clear c20
          have H' := Aside0.mk H
          clear H
          have hcz31_0 : wr.cell? ⟨gb166, 0, none⟩ = some (.int .i64 a0_0) := (blk_cell BK166.out 0).trans rfl
          have hcz31_1 : wr.cell? ⟨gb166, 1, none⟩ = some (.slice (some ad167) l0_1.length c0_1) := (blk_cell BK166.out 1).trans rfl
          have hfz31_0 := blk_frozen BK166.out 0
          have hfz31_1 := blk_frozen BK166.out 1
          have p172 : 0 ≤ (x10_1 : Int) := of_decide_eq_true (by first | (with_reducible assumption) | assumption)
          have q172 : x10_1 < (l0_1.length : Int) := of_decide_eq_true (by first | (with_reducible assumption) | assumption)
          obtain ⟨ad172, e172, hx172_0, hx172_1, hx172_2, hx172_3, hx172_4, hx172_5, hx172_6, hx172_7, hx172_8, hx172_9, hx172_10⟩ := at_T42 HR0_1.out x10_1 p172 q172
          obtain rfl : ad167 = ad172 := (by injection e172)
          replace hx172_0 := (HB.out.cell (World.block_lt_of_cell? w _ hx172_0)).trans hx172_0
          replace hx172_1 := (HB.out.cell (World.block_lt_of_cell? w _ hx172_1)).trans hx172_1
          replace hx172_2 := (HB.out.cell (World.block_lt_of_cell? w _ hx172_2)).trans hx172_2
          replace hx172_3 := (HB.out.cell (World.block_lt_of_cell? w _ hx172_3)).trans hx172_3
          replace hx172_4 := (HB.out.cell (World.block_lt_of_cell? w _ hx172_4)).trans hx172_4
          replace hx172_5 := (HB.out.cell (World.block_lt_of_cell? w _ hx172_5)).trans hx172_5
          replace hx172_6 := (HB.out.cell (World.block_lt_of_cell? w _ hx172_6)).trans hx172_6
          replace hx172_7 := (HB.out.cell (World.block_lt_of_cell? w _ hx172_7)).trans hx172_7
          replace hx172_8 := (HB.out.cell (World.block_lt_of_cell? w _ hx172_8)).trans hx172_8
          replace hx172_9 := (HB.out.cell (World.block_lt_of_cell? w _ hx172_9)).trans hx172_9
          replace hx172_10 := (HB.out.cell (World.block_lt_of_cell? w _ hx172_10)).trans hx172_10
          replace p172 := eq_true p172
          replace q172 := eq_true q172
          try go_wp2_with (first | ((with_reducible refine gate_dst (N := 11) rfl ?_); refine box_event ?hg (N := 11) ?hd (cs := #[.string (⟨#[]⟩ : ByteArray), .int .i64 0, .int .i64 0, .int .i64 0, .int .i64 0, .int .i64 0, .int .i64 0, .int .i64 0, .int .i64 0, .int .i64 0, .int .i64 0]) (t := 42) ?hr ?_; (case hd => rfl); (case hg => rfl); (case hr => first | (go_simp; done) | (go_simp; rfl)); intro gb173 hg w32 hbox hb; have n0_ := Aside0.mk (blk_below (g := gb166) (o := .cells #[.int .i64 a0_0, .slice (some ad167) l0_1.length c0_1] 24 (0, 0)) (by (with_reducible repeat (first | refine blk_drewN ?_ _ | refine blk_drew ?_ | refine blk_alloc ?_ _)); exact BK166.out) hb); have n1_ := Aside0.mk (below_step (by repeat (first | (with_reducible first | exact HB.out | apply below_alloc | apply pw_below_drewN | apply below_drew1 | refine below_set ?_ GE166.out) | exact HB.out)) hb); have n2_ := Aside0.mk (hbox); have n3_ := Aside0.mk ((by rw [hg]; exact (below_size (by repeat (first | (with_reducible first | exact HB.out | apply below_alloc | apply pw_below_drewN | apply below_drew1 | refine below_set ?_ GE166.out) | exact HB.out))) : w.heap.size ≤ gb173)); have n4_ := Aside0.mk ((by rw [hg]; exact (below_size (by repeat (first | (with_reducible first | exact HB.out | apply below_alloc | apply pw_below_drewN | apply below_drew1 | refine below_set ?_ GE166.out) | exact HB.out))) : w.heap.size ≤ gb173)); have n5_ := Aside0.mk ((by rw [hg]; exact Nat.ne_of_lt (blk_lt (g := gb166) (o := .cells #[.int .i64 a0_0, .slice (some ad167) l0_1.length c0_1] 24 (0, 0)) (by (with_reducible repeat (first | refine blk_drewN ?_ _ | refine blk_drew ?_ | refine blk_alloc ?_ _)); exact BK166.out)) : gb166 ≠ gb173)); have n6_ := Aside0.mk ((by rw [hg]; exact Nat.ne_of_gt (blk_lt (g := gb166) (o := .cells #[.int .i64 a0_0, .slice (some ad167) l0_1.length c0_1] 24 (0, 0)) (by (with_reducible repeat (first | refine blk_drewN ?_ _ | refine blk_drew ?_ | refine blk_alloc ?_ _)); exact BK166.out)) : gb173 ≠ gb166)); clear BK166; clear HB; have BK166 := n0_; have HB := n1_; have BK173 := n2_; have GW173 := n3_; have GE173 := n4_; have NB166_173 := n5_; have NB173_166 := n6_; clear n0_ n1_ n2_ n3_ n4_ n5_ n6_; clear hb hbox hg; have hnb33 := NB173_166.out; have hnc33 := NB166_173.out; have hcz34_0 : w32.cell? ⟨gb173, 0, none⟩ = some (.string (⟨#[]⟩ : ByteArray)) := (blk_cell BK173.out 0).trans rfl; have hcz34_1 : w32.cell? ⟨gb173, 1, none⟩ = some (.int .i64 0) := (blk_cell BK173.out 1).trans rfl; have hcz34_2 : w32.cell? ⟨gb173, 2, none⟩ = some (.int .i64 0) := (blk_cell BK173.out 2).trans rfl; have hcz34_3 : w32.cell? ⟨gb173, 3, none⟩ = some (.int .i64 0) := (blk_cell BK173.out 3).trans rfl; have hcz34_4 : w32.cell? ⟨gb173, 4, none⟩ = some (.int .i64 0) := (blk_cell BK173.out 4).trans rfl; have hcz34_5 : w32.cell? ⟨gb173, 5, none⟩ = some (.int .i64 0) := (blk_cell BK173.out 5).trans rfl; have hcz34_6 : w32.cell? ⟨gb173, 6, none⟩ = some (.int .i64 0) := (blk_cell BK173.out 6).trans rfl; have hcz34_7 : w32.cell? ⟨gb173, 7, none⟩ = some (.int .i64 0) := (blk_cell BK173.out 7).trans rfl; have hcz34_8 : w32.cell? ⟨gb173, 8, none⟩ = some (.int .i64 0) := (blk_cell BK173.out 8).trans rfl; have hcz34_9 : w32.cell? ⟨gb173, 9, none⟩ = some (.int .i64 0) := (blk_cell BK173.out 9).trans rfl; have hcz34_10 : w32.cell? ⟨gb173, 10, none⟩ = some (.int .i64 0) := (blk_cell BK173.out 10).trans rfl; have hfz34_0 := blk_frozen BK173.out 0; have hfz34_1 := blk_frozen BK173.out 1; have hfz34_2 := blk_frozen BK173.out 2; have hfz34_3 := blk_frozen BK173.out 3; have hfz34_4 := blk_frozen BK173.out 4; have hfz34_5 := blk_frozen BK173.out 5; have hfz34_6 := blk_frozen BK173.out 6; have hfz34_7 := blk_frozen BK173.out 7; have hfz34_8 := blk_frozen BK173.out 8; have hfz34_9 := blk_frozen BK173.out 9; have hfz34_10 := blk_frozen BK173.out 10))
          have n0_ : Aside0 ((((((((((((w32.setCell ⟨gb173, 0, none⟩ (.string ((rd_T42 l0_1 x10_1).f0))).setCell ⟨gb173, 1, none⟩ (.int .i64 ((rd_T42 l0_1 x10_1).f1))).setCell ⟨gb173, 2, none⟩ (.int .i64 ((rd_T42 l0_1 x10_1).f2))).setCell ⟨gb173, 3, none⟩ (.int .i64 ((rd_T42 l0_1 x10_1).f3))).setCell ⟨gb173, 4, none⟩ (.int .i64 ((rd_T42 l0_1 x10_1).f4))).setCell ⟨gb173, 5, none⟩ (.int .i64 ((rd_T42 l0_1 x10_1).f5))).setCell ⟨gb173, 6, none⟩ (.int .i64 ((rd_T42 l0_1 x10_1).f6))).setCell ⟨gb173, 7, none⟩ (.int .i64 ((rd_T42 l0_1 x10_1).f7))).setCell ⟨gb173, 8, none⟩ (.int .i64 ((rd_T42 l0_1 x10_1).f8))).setCell ⟨gb173, 9, none⟩ (.int .i64 ((rd_T42 l0_1 x10_1).f9))).setCell ⟨gb173, 10, none⟩ (.int .i64 ((rd_T42 l0_1 x10_1).f10))).heap[gb166]? = some (.cells #[.int .i64 a0_0, .slice (some ad167) l0_1.length c0_1] 24 (0, 0))) := ⟨by (with_reducible repeat (first | refine blk_drewN ?_ _ | refine blk_drew ?_ | refine blk_alloc ?_ _)); refine blk_far ?_ NB166_173.out _; (with_reducible repeat (first | refine blk_drewN ?_ _ | refine blk_drew ?_ | refine blk_alloc ?_ _)); refine blk_far ?_ NB166_173.out _; (with_reducible repeat (first | refine blk_drewN ?_ _ | refine blk_drew ?_ | refine blk_alloc ?_ _)); refine blk_far ?_ NB166_173.out _; (with_reducible repeat (first | refine blk_drewN ?_ _ | refine blk_drew ?_ | refine blk_alloc ?_ _)); refine blk_far ?_ NB166_173.out _; (with_reducible repeat (first | refine blk_drewN ?_ _ | refine blk_drew ?_ | refine blk_alloc ?_ _)); refine blk_far ?_ NB166_173.out _; (with_reducible repeat (first | refine blk_drewN ?_ _ | refine blk_drew ?_ | refine blk_alloc ?_ _)); refine blk_far ?_ NB166_173.out _; (with_reducible repeat (first | refine blk_drewN ?_ _ | refine blk_drew ?_ | refine blk_alloc ?_ _)); refine blk_far ?_ NB166_173.out _; (with_reducible repeat (first | refine blk_drewN ?_ _ | refine blk_drew ?_ | refine blk_alloc ?_ _)); refine blk_far ?_ NB166_173.out _; (with_reducible repeat (first | refine blk_drewN ?_ _ | refine blk_drew ?_ | refine blk_alloc ?_ _)); refine blk_far ?_ NB166_173.out _; (with_reducible repeat (first | refine blk_drewN ?_ _ | refine blk_drew ?_ | refine blk_alloc ?_ _)); refine blk_far ?_ NB166_173.out _; (with_reducible repeat (first | refine blk_drewN ?_ _ | refine blk_drew ?_ | refine blk_alloc ?_ _)); refine blk_far ?_ NB166_173.out _; (with_reducible repeat (first | refine blk_drewN ?_ _ | refine blk_drew ?_ | refine blk_alloc ?_ _)); exact BK166.out⟩
          have n1_ : Aside0 ((((((((((((w32.setCell ⟨gb173, 0, none⟩ (.string ((rd_T42 l0_1 x10_1).f0))).setCell ⟨gb173, 1, none⟩ (.int .i64 ((rd_T42 l0_1 x10_1).f1))).setCell ⟨gb173, 2, none⟩ (.int .i64 ((rd_T42 l0_1 x10_1).f2))).setCell ⟨gb173, 3, none⟩ (.int .i64 ((rd_T42 l0_1 x10_1).f3))).setCell ⟨gb173, 4, none⟩ (.int .i64 ((rd_T42 l0_1 x10_1).f4))).setCell ⟨gb173, 5, none⟩ (.int .i64 ((rd_T42 l0_1 x10_1).f5))).setCell ⟨gb173, 6, none⟩ (.int .i64 ((rd_T42 l0_1 x10_1).f6))).setCell ⟨gb173, 7, none⟩ (.int .i64 ((rd_T42 l0_1 x10_1).f7))).setCell ⟨gb173, 8, none⟩ (.int .i64 ((rd_T42 l0_1 x10_1).f8))).setCell ⟨gb173, 9, none⟩ (.int .i64 ((rd_T42 l0_1 x10_1).f9))).setCell ⟨gb173, 10, none⟩ (.int .i64 ((rd_T42 l0_1 x10_1).f10))).heap[gb173]? = some (.cells #[.string ((rd_T42 l0_1 x10_1).f0), .int .i64 ((rd_T42 l0_1 x10_1).f1), .int .i64 ((rd_T42 l0_1 x10_1).f2), .int .i64 ((rd_T42 l0_1 x10_1).f3), .int .i64 ((rd_T42 l0_1 x10_1).f4), .int .i64 ((rd_T42 l0_1 x10_1).f5), .int .i64 ((rd_T42 l0_1 x10_1).f6), .int .i64 ((rd_T42 l0_1 x10_1).f7), .int .i64 ((rd_T42 l0_1 x10_1).f8), .int .i64 ((rd_T42 l0_1 x10_1).f9), .int .i64 ((rd_T42 l0_1 x10_1).f10)] 42 (0, 0))) := ⟨by (with_reducible repeat (first | refine blk_drewN ?_ _ | refine blk_drew ?_ | refine blk_alloc ?_ _)); refine blk_put (cs := #[.string ((rd_T42 l0_1 x10_1).f0), .int .i64 ((rd_T42 l0_1 x10_1).f1), .int .i64 ((rd_T42 l0_1 x10_1).f2), .int .i64 ((rd_T42 l0_1 x10_1).f3), .int .i64 ((rd_T42 l0_1 x10_1).f4), .int .i64 ((rd_T42 l0_1 x10_1).f5), .int .i64 ((rd_T42 l0_1 x10_1).f6), .int .i64 ((rd_T42 l0_1 x10_1).f7), .int .i64 ((rd_T42 l0_1 x10_1).f8), .int .i64 ((rd_T42 l0_1 x10_1).f9), .int .i64 0]) ?_ 10 _ rfl; (with_reducible repeat (first | refine blk_drewN ?_ _ | refine blk_drew ?_ | refine blk_alloc ?_ _)); refine blk_put (cs := #[.string ((rd_T42 l0_1 x10_1).f0), .int .i64 ((rd_T42 l0_1 x10_1).f1), .int .i64 ((rd_T42 l0_1 x10_1).f2), .int .i64 ((rd_T42 l0_1 x10_1).f3), .int .i64 ((rd_T42 l0_1 x10_1).f4), .int .i64 ((rd_T42 l0_1 x10_1).f5), .int .i64 ((rd_T42 l0_1 x10_1).f6), .int .i64 ((rd_T42 l0_1 x10_1).f7), .int .i64 ((rd_T42 l0_1 x10_1).f8), .int .i64 0, .int .i64 0]) ?_ 9 _ rfl; (with_reducible repeat (first | refine blk_drewN ?_ _ | refine blk_drew ?_ | refine blk_alloc ?_ _)); refine blk_put (cs := #[.string ((rd_T42 l0_1 x10_1).f0), .int .i64 ((rd_T42 l0_1 x10_1).f1), .int .i64 ((rd_T42 l0_1 x10_1).f2), .int .i64 ((rd_T42 l0_1 x10_1).f3), .int .i64 ((rd_T42 l0_1 x10_1).f4), .int .i64 ((rd_T42 l0_1 x10_1).f5), .int .i64 ((rd_T42 l0_1 x10_1).f6), .int .i64 ((rd_T42 l0_1 x10_1).f7), .int .i64 0, .int .i64 0, .int .i64 0]) ?_ 8 _ rfl; (with_reducible repeat (first | refine blk_drewN ?_ _ | refine blk_drew ?_ | refine blk_alloc ?_ _)); refine blk_put (cs := #[.string ((rd_T42 l0_1 x10_1).f0), .int .i64 ((rd_T42 l0_1 x10_1).f1), .int .i64 ((rd_T42 l0_1 x10_1).f2), .int .i64 ((rd_T42 l0_1 x10_1).f3), .int .i64 ((rd_T42 l0_1 x10_1).f4), .int .i64 ((rd_T42 l0_1 x10_1).f5), .int .i64 ((rd_T42 l0_1 x10_1).f6), .int .i64 0, .int .i64 0, .int .i64 0, .int .i64 0]) ?_ 7 _ rfl; (with_reducible repeat (first | refine blk_drewN ?_ _ | refine blk_drew ?_ | refine blk_alloc ?_ _)); refine blk_put (cs := #[.string ((rd_T42 l0_1 x10_1).f0), .int .i64 ((rd_T42 l0_1 x10_1).f1), .int .i64 ((rd_T42 l0_1 x10_1).f2), .int .i64 ((rd_T42 l0_1 x10_1).f3), .int .i64 ((rd_T42 l0_1 x10_1).f4), .int .i64 ((rd_T42 l0_1 x10_1).f5), .int .i64 0, .int .i64 0, .int .i64 0, .int .i64 0, .int .i64 0]) ?_ 6 _ rfl; (with_reducible repeat (first | refine blk_drewN ?_ _ | refine blk_drew ?_ | refine blk_alloc ?_ _)); refine blk_put (cs := #[.string ((rd_T42 l0_1 x10_1).f0), .int .i64 ((rd_T42 l0_1 x10_1).f1), .int .i64 ((rd_T42 l0_1 x10_1).f2), .int .i64 ((rd_T42 l0_1 x10_1).f3), .int .i64 ((rd_T42 l0_1 x10_1).f4), .int .i64 0, .int .i64 0, .int .i64 0, .int .i64 0, .int .i64 0, .int .i64 0]) ?_ 5 _ rfl; (with_reducible repeat (first | refine blk_drewN ?_ _ | refine blk_drew ?_ | refine blk_alloc ?_ _)); refine blk_put (cs := #[.string ((rd_T42 l0_1 x10_1).f0), .int .i64 ((rd_T42 l0_1 x10_1).f1), .int .i64 ((rd_T42 l0_1 x10_1).f2), .int .i64 ((rd_T42 l0_1 x10_1).f3), .int .i64 0, .int .i64 0, .int .i64 0, .int .i64 0, .int .i64 0, .int .i64 0, .int .i64 0]) ?_ 4 _ rfl; (with_reducible repeat (first | refine blk_drewN ?_ _ | refine blk_drew ?_ | refine blk_alloc ?_ _)); refine blk_put (cs := #[.string ((rd_T42 l0_1 x10_1).f0), .int .i64 ((rd_T42 l0_1 x10_1).f1), .int .i64 ((rd_T42 l0_1 x10_1).f2), .int .i64 0, .int .i64 0, .int .i64 0, .int .i64 0, .int .i64 0, .int .i64 0, .int .i64 0, .int .i64 0]) ?_ 3 _ rfl; (with_reducible repeat (first | refine blk_drewN ?_ _ | refine blk_drew ?_ | refine blk_alloc ?_ _)); refine blk_put (cs := #[.string ((rd_T42 l0_1 x10_1).f0), .int .i64 ((rd_T42 l0_1 x10_1).f1), .int .i64 0, .int .i64 0, .int .i64 0, .int .i64 0, .int .i64 0, .int .i64 0, .int .i64 0, .int .i64 0, .int .i64 0]) ?_ 2 _ rfl; (with_reducible repeat (first | refine blk_drewN ?_ _ | refine blk_drew ?_ | refine blk_alloc ?_ _)); refine blk_put (cs := #[.string ((rd_T42 l0_1 x10_1).f0), .int .i64 0, .int .i64 0, .int .i64 0, .int .i64 0, .int .i64 0, .int .i64 0, .int .i64 0, .int .i64 0, .int .i64 0, .int .i64 0]) ?_ 1 _ rfl; (with_reducible repeat (first | refine blk_drewN ?_ _ | refine blk_drew ?_ | refine blk_alloc ?_ _)); refine blk_put (cs := #[.string (⟨#[]⟩ : ByteArray), .int .i64 0, .int .i64 0, .int .i64 0, .int .i64 0, .int .i64 0, .int .i64 0, .int .i64 0, .int .i64 0, .int .i64 0, .int .i64 0]) ?_ 0 _ rfl; (with_reducible repeat (first | refine blk_drewN ?_ _ | refine blk_drew ?_ | refine blk_alloc ?_ _)); exact BK173.out⟩
          have n2_ : Aside0 (Below w.heap.size w (((((((((((w32.setCell ⟨gb173, 0, none⟩ (.string ((rd_T42 l0_1 x10_1).f0))).setCell ⟨gb173, 1, none⟩ (.int .i64 ((rd_T42 l0_1 x10_1).f1))).setCell ⟨gb173, 2, none⟩ (.int .i64 ((rd_T42 l0_1 x10_1).f2))).setCell ⟨gb173, 3, none⟩ (.int .i64 ((rd_T42 l0_1 x10_1).f3))).setCell ⟨gb173, 4, none⟩ (.int .i64 ((rd_T42 l0_1 x10_1).f4))).setCell ⟨gb173, 5, none⟩ (.int .i64 ((rd_T42 l0_1 x10_1).f5))).setCell ⟨gb173, 6, none⟩ (.int .i64 ((rd_T42 l0_1 x10_1).f6))).setCell ⟨gb173, 7, none⟩ (.int .i64 ((rd_T42 l0_1 x10_1).f7))).setCell ⟨gb173, 8, none⟩ (.int .i64 ((rd_T42 l0_1 x10_1).f8))).setCell ⟨gb173, 9, none⟩ (.int .i64 ((rd_T42 l0_1 x10_1).f9))).setCell ⟨gb173, 10, none⟩ (.int .i64 ((rd_T42 l0_1 x10_1).f10)))) := ⟨by repeat (first | (with_reducible first | exact HB.out | apply below_alloc | apply pw_below_drewN | apply below_drew1 | refine below_set ?_ GE166.out | refine below_set ?_ GE173.out) | exact HB.out)⟩
          (try clear BK166)
          (try clear BK173)
          (try clear HB)
          generalize (((((((((((w32.setCell ⟨gb173, 0, none⟩ (.string ((rd_T42 l0_1 x10_1).f0))).setCell ⟨gb173, 1, none⟩ (.int .i64 ((rd_T42 l0_1 x10_1).f1))).setCell ⟨gb173, 2, none⟩ (.int .i64 ((rd_T42 l0_1 x10_1).f2))).setCell ⟨gb173, 3, none⟩ (.int .i64 ((rd_T42 l0_1 x10_1).f3))).setCell ⟨gb173, 4, none⟩ (.int .i64 ((rd_T42 l0_1 x10_1).f4))).setCell ⟨gb173, 5, none⟩ (.int .i64 ((rd_T42 l0_1 x10_1).f5))).setCell ⟨gb173, 6, none⟩ (.int .i64 ((rd_T42 l0_1 x10_1).f6))).setCell ⟨gb173, 7, none⟩ (.int .i64 ((rd_T42 l0_1 x10_1).f7))).setCell ⟨gb173, 8, none⟩ (.int .i64 ((rd_T42 l0_1 x10_1).f8))).setCell ⟨gb173, 9, none⟩ (.int .i64 ((rd_T42 l0_1 x10_1).f9))).setCell ⟨gb173, 10, none⟩ (.int .i64 ((rd_T42 l0_1 x10_1).f10))) = w35 at n0_ n1_ n2_ ⊢
          have BK166 := n0_
          have BK173 := n1_
          have HB := n2_
          clear n0_ n1_ n2_
          have n0_ := Aside0.mk (blk_drew BK166.out)
          have n1_ := Aside0.mk (blk_drew BK173.out)
          have n2_ := Aside0.mk (below_drew1 HB.out)
          clear BK166
          clear BK173
          clear HB
          have BK166 := n0_
          have BK173 := n1_
          have HB := n2_
          clear n0_ n1_ n2_
          have p174 : 0 ≤ (a1 : Int) := of_decide_eq_true (by first | (with_reducible assumption) | assumption)
          have q174 : a1 < (l0_1.length : Int) := of_decide_eq_true (by first | (with_reducible assumption) | assumption)
          obtain ⟨ad174, e174, hx174_0, hx174_1, hx174_2, hx174_3, hx174_4, hx174_5, hx174_6, hx174_7, hx174_8, hx174_9, hx174_10⟩ := at_T42 HR0_1.out a1 p174 q174
          have hw174_10 := hx174_10
          have hw174_9 := hx174_9
          have hw174_8 := hx174_8
          have hw174_7 := hx174_7
          have hw174_6 := hx174_6
          have hw174_5 := hx174_5
          have hw174_4 := hx174_4
          have hw174_3 := hx174_3
          have hw174_2 := hx174_2
          have hw174_1 := hx174_1
          have hw174_0 := hx174_0
          obtain rfl : ad167 = ad174 := (by injection e174)
          replace hx174_0 := (HB.out.cell (World.block_lt_of_cell? w _ hx174_0)).trans hx174_0
          replace hx174_1 := (HB.out.cell (World.block_lt_of_cell? w _ hx174_1)).trans hx174_1
          replace hx174_2 := (HB.out.cell (World.block_lt_of_cell? w _ hx174_2)).trans hx174_2
          replace hx174_3 := (HB.out.cell (World.block_lt_of_cell? w _ hx174_3)).trans hx174_3
          replace hx174_4 := (HB.out.cell (World.block_lt_of_cell? w _ hx174_4)).trans hx174_4
          replace hx174_5 := (HB.out.cell (World.block_lt_of_cell? w _ hx174_5)).trans hx174_5
          replace hx174_6 := (HB.out.cell (World.block_lt_of_cell? w _ hx174_6)).trans hx174_6
          replace hx174_7 := (HB.out.cell (World.block_lt_of_cell? w _ hx174_7)).trans hx174_7
          replace hx174_8 := (HB.out.cell (World.block_lt_of_cell? w _ hx174_8)).trans hx174_8
          replace hx174_9 := (HB.out.cell (World.block_lt_of_cell? w _ hx174_9)).trans hx174_9
          replace hx174_10 := (HB.out.cell (World.block_lt_of_cell? w _ hx174_10)).trans hx174_10
          replace p174 := eq_true p174
          replace q174 := eq_true q174
          refine start_ (n := 9) (S := fun w' => w'.cell? ⟨gb173, 0, none⟩ = some (.string ((rd_T42 l0_1 x10_1).f0)) ∧ w'.cell? ⟨gb173, 1, none⟩ = some (.int .i64 ((rd_T42 l0_1 x10_1).f1)) ∧ w'.cell? ⟨gb173, 2, none⟩ = some (.int .i64 ((rd_T42 l0_1 x10_1).f2)) ∧ w'.cell? ⟨gb173, 3, none⟩ = some (.int .i64 ((rd_T42 l0_1 x10_1).f3)) ∧ w'.cell? ⟨gb173, 4, none⟩ = some (.int .i64 ((rd_T42 l0_1 x10_1).f4)) ∧ w'.cell? ⟨gb173, 5, none⟩ = some (.int .i64 ((rd_T42 l0_1 x10_1).f5)) ∧ w'.cell? ⟨gb173, 6, none⟩ = some (.int .i64 ((rd_T42 l0_1 x10_1).f6)) ∧ w'.cell? ⟨gb173, 7, none⟩ = some (.int .i64 ((rd_T42 l0_1 x10_1).f7)) ∧ w'.cell? ⟨gb173, 8, none⟩ = some (.int .i64 ((rd_T42 l0_1 x10_1).f8)) ∧ w'.cell? ⟨gb173, 9, none⟩ = some (.int .i64 ((rd_T42 l0_1 x10_1).f9)) ∧ w'.cell? ⟨gb173, 10, none⟩ = some (.int .i64 ((rd_T42 l0_1 x10_1).f10)) ∧ w'.cell? ⟨gb166, 0, none⟩ = some (.int .i64 a0_0) ∧ w'.cell? ⟨gb166, 1, none⟩ = some (.slice (some ad167) l0_1.length c0_1) ∧ w'.cell? (ad167.add ((a1).toNat * 11)) = some (.string ((rd_T42 l0_1 a1).f0)) ∧ w'.cell? ⟨(ad167.add ((a1).toNat * 11)).block, (ad167.add ((a1).toNat * 11)).off + 1, none⟩ = some (.int .i64 ((rd_T42 l0_1 a1).f1)) ∧ w'.cell? ⟨(ad167.add ((a1).toNat * 11)).block, (ad167.add ((a1).toNat * 11)).off + 2, none⟩ = some (.int .i64 ((rd_T42 l0_1 a1).f2)) ∧ w'.cell? ⟨(ad167.add ((a1).toNat * 11)).block, (ad167.add ((a1).toNat * 11)).off + 3, none⟩ = some (.int .i64 ((rd_T42 l0_1 a1).f3)) ∧ w'.cell? ⟨(ad167.add ((a1).toNat * 11)).block, (ad167.add ((a1).toNat * 11)).off + 4, none⟩ = some (.int .i64 ((rd_T42 l0_1 a1).f4)) ∧ w'.cell? ⟨(ad167.add ((a1).toNat * 11)).block, (ad167.add ((a1).toNat * 11)).off + 5, none⟩ = some (.int .i64 ((rd_T42 l0_1 a1).f5)) ∧ w'.cell? ⟨(ad167.add ((a1).toNat * 11)).block, (ad167.add ((a1).toNat * 11)).off + 6, none⟩ = some (.int .i64 ((rd_T42 l0_1 a1).f6)) ∧ w'.cell? ⟨(ad167.add ((a1).toNat * 11)).block, (ad167.add ((a1).toNat * 11)).off + 7, none⟩ = some (.int .i64 ((rd_T42 l0_1 a1).f7)) ∧ w'.cell? ⟨(ad167.add ((a1).toNat * 11)).block, (ad167.add ((a1).toNat * 11)).off + 8, none⟩ = some (.int .i64 ((rd_T42 l0_1 a1).f8)) ∧ w'.cell? ⟨(ad167.add ((a1).toNat * 11)).block, (ad167.add ((a1).toNat * 11)).off + 9, none⟩ = some (.int .i64 ((rd_T42 l0_1 a1).f9)) ∧ w'.cell? ⟨(ad167.add ((a1).toNat * 11)).block, (ad167.add ((a1).toNat * 11)).off + 10, none⟩ = some (.int .i64 ((rd_T42 l0_1 a1).f10))) (ds := []) #[false, false, false, false, false, false, false, false, false] (by kernel_rfl) rfl rfl ⟨(blk_cell BK173.out 0).trans rfl, (blk_cell BK173.out 1).trans rfl, (blk_cell BK173.out 2).trans rfl, (blk_cell BK173.out 3).trans rfl, (blk_cell BK173.out 4).trans rfl, (blk_cell BK173.out 5).trans rfl, (blk_cell BK173.out 6).trans rfl, (blk_cell BK173.out 7).trans rfl, (blk_cell BK173.out 8).trans rfl, (blk_cell BK173.out 9).trans rfl, (blk_cell BK173.out 10).trans rfl, (blk_cell BK166.out 0).trans rfl, (blk_cell BK166.out 1).trans rfl, ((HB.out.cell (World.block_lt_of_cell? w _ hw174_0)).trans hw174_0), ((HB.out.cell (World.block_lt_of_cell? w _ hw174_1)).trans hw174_1), ((HB.out.cell (World.block_lt_of_cell? w _ hw174_2)).trans hw174_2), ((HB.out.cell (World.block_lt_of_cell? w _ hw174_3)).trans hw174_3), ((HB.out.cell (World.block_lt_of_cell? w _ hw174_4)).trans hw174_4), ((HB.out.cell (World.block_lt_of_cell? w _ hw174_5)).trans hw174_5), ((HB.out.cell (World.block_lt_of_cell? w _ hw174_6)).trans hw174_6), ((HB.out.cell (World.block_lt_of_cell? w _ hw174_7)).trans hw174_7), ((HB.out.cell (World.block_lt_of_cell? w _ hw174_8)).trans hw174_8), ((HB.out.cell (World.block_lt_of_cell? w _ hw174_9)).trans hw174_9), ((HB.out.cell (World.block_lt_of_cell? w _ hw174_10)).trans hw174_10)⟩ (fun hHeld => ?_); refine with_tabW pendulumref19_Next.tab6 pendulumref19_Next.bits6 (fun HT_ HW_ => ?_)
          generalize w35.drew = w36 at BK166 BK173 HB hx174_0 hx174_1 hx174_10 hx174_2 hx174_3 hx174_4 hx174_5 hx174_6 hx174_7 hx174_8 hx174_9 hHeld ⊢
          refine pure_ (i := 0) (N := some 47) (v := ?_) (a' := ?_) #[true, false, false, false, false, false, false, false, false] rfl rfl (any_of HT_.out (by kernel_rfl)) (fun _ _ _ h => h) (Or.inl ⟨by rfl, ?_⟩) ?_ ?_
          rotate_left
          ·intro w'
           go_simp
           with_reducible rfl
          rotate_left
          ·simp only [Act.put, List.setIfInBounds_toArray, List.set_cons_zero, List.set_cons_succ, i64_w, i32_w]
           rfl
          refine pure_ (i := 2) (N := some 49) (v := ?_) (a' := ?_) #[true, false, true, false, false, false, false, false, false] rfl rfl (any_of HT_.out (by kernel_rfl)) (fun _ _ _ h => h) (Or.inl ⟨by rfl, ?_⟩) ?_ ?_
          rotate_left
          ·intro w'
           go_simp
           with_reducible rfl
          rotate_left
          ·simp only [Act.put, List.setIfInBounds_toArray, List.set_cons_zero, List.set_cons_succ, i64_w, i32_w]
           rfl
          refine pure_ (i := 4) (N := some 51) (v := ?_) (a' := ?_) #[true, false, true, false, true, false, false, false, false] rfl rfl (any_of HT_.out (by kernel_rfl)) (fun _ _ _ h => h) (Or.inl ⟨by rfl, ?_⟩) ?_ ?_
          rotate_left
          ·intro w'
           go_simp
           with_reducible rfl
          rotate_left
          ·simp only [Act.put, List.setIfInBounds_toArray, List.set_cons_zero, List.set_cons_succ, i64_w, i32_w]
           rfl
          refine take_ (i := 1) (N := some 48) (v := ?_) (a' := ?_) #[true, true, true, false, true, false, false, false, false] rfl rfl (take_ofW HT_.out HW_.out (by kernel_rfl)) (fun _ _ _ h => h) (Or.inl ⟨by rfl, ?_⟩) hHeld ?_ ?_
          rotate_left
          ·rintro w' ⟨s0, s1, s2, s3, s4, s5, s6, s7, s8, s9, s10, s11, s12, s13, s14, s15, s16, s17, s18, s19, s20, s21, s22, s23⟩
           go_simp
           with_reducible rfl
          rotate_left
          ·simp only [Act.put, List.setIfInBounds_toArray, List.set_cons_zero, List.set_cons_succ, i64_w, i32_w]
           rfl
          refine take_ (i := 3) (N := some 50) (v := ?_) (a' := ?_) #[true, true, true, true, true, false, false, false, false] rfl rfl (take_ofW HT_.out HW_.out (by kernel_rfl)) (fun _ _ _ h => h) (Or.inl ⟨by rfl, ?_⟩) hHeld ?_ ?_
          rotate_left
          ·rintro w' ⟨s0, s1, s2, s3, s4, s5, s6, s7, s8, s9, s10, s11, s12, s13, s14, s15, s16, s17, s18, s19, s20, s21, s22, s23⟩
           go_simp
           with_reducible rfl
          rotate_left
          ·simp only [Act.put, List.setIfInBounds_toArray, List.set_cons_zero, List.set_cons_succ, i64_w, i32_w]
           rfl
          refine pure_ (i := 5) (N := some 52) (v := ?_) (a' := ?_) #[true, true, true, true, true, true, false, false, false] rfl rfl (any_of HT_.out (by kernel_rfl)) (fun _ _ _ h => h) (Or.inl ⟨by rfl, ?_⟩) ?_ ?_
          rotate_left
          ·intro w'
           go_simp
           with_reducible rfl
          rotate_left
          ·simp only [Act.put, List.setIfInBounds_toArray, List.set_cons_zero, List.set_cons_succ, i64_w, i32_w]
           rfl
          refine pure_ (i := 6) (N := some 53) (v := ?_) (a' := ?_) #[true, true, true, true, true, true, true, false, false] rfl rfl (any_of HT_.out (by kernel_rfl)) (fun _ _ _ h => h) (Or.inl ⟨by rfl, ?_⟩) ?_ ?_
          rotate_left
          ·intro w'
           go_simp
           with_reducible rfl
          rotate_left
          ·simp only [Act.put, List.setIfInBounds_toArray, List.set_cons_zero, List.set_cons_succ, i64_w, i32_w]
           rfl
          refine take_ (i := 7) (N := some 54) (v := ?_) (a' := ?_) #[true, true, true, true, true, true, true, true, false] rfl rfl (take_ofW HT_.out HW_.out (by kernel_rfl)) (fun _ _ _ h => h) (Or.inl ⟨by rfl, ?_⟩) hHeld ?_ ?_
          rotate_left
          ·rintro w' ⟨s0, s1, s2, s3, s4, s5, s6, s7, s8, s9, s10, s11, s12, s13, s14, s15, s16, s17, s18, s19, s20, s21, s22, s23⟩
           go_simp
           with_reducible rfl
          rotate_left
          ·simp only [Act.put, List.setIfInBounds_toArray, List.set_cons_zero, List.set_cons_succ, i64_w, i32_w]
           rfl
          refine pure_ (i := 8) (N := some 55) (v := ?_) (a' := ?_) #[true, true, true, true, true, true, true, true, true] rfl rfl (any_of HT_.out (by kernel_rfl)) (fun _ _ _ h => h) (Or.inl ⟨by rfl, ?_⟩) ?_ ?_
          rotate_left
          ·intro w'
           go_simp
           with_reducible rfl
          rotate_left
          ·simp only [Act.put, List.setIfInBounds_toArray, List.set_cons_zero, List.set_cons_succ, i64_w, i32_w]
           rfl
          refine done_ (done_of HT_.out (by kernel_rfl)) ?_
          try go_wp2
          go_roundg k1
          case measure => have := HK1.out; omega
          case rel => exact ⟨(x9_1), (wrap64 (x10_1 + 1)), (by first | rfl | (simp; done) | (simp [*]; done)), (by first | rfl | (simp; done) | (simp [*]; done)), H', ⟨by have := HK1.out; omega⟩, ⟨by (with_reducible repeat (first | refine blk_drewN ?_ _ | refine blk_drew ?_ | refine blk_alloc ?_ _)); exact BK166.out⟩, ⟨by repeat (first | (with_reducible first | exact HB.out | apply below_alloc | apply pw_below_drewN | apply below_drew1 | refine below_set ?_ GE166.out | refine below_set ?_ GE173.out) | exact HB.out)⟩⟩
        ·rw [if_neg c19] at H
         exact absurd H (by simp)
       ·rw [if_neg c18] at H
        exact absurd H (by simp)
      ·rw [if_neg c17] at H
       exact absurd H (by simp)
     ·rw [if_neg c16] at H
      have c16b0 : decide (x10_1 < (l0_1.length : Int)) = false := decide_eq_false c16
      clear c16
      obtain rfl := Option.some.inj H
      have hcz37_0 : wr.cell? ⟨gb166, 0, none⟩ = some (.int .i64 a0_0) := (blk_cell BK166.out 0).trans rfl
      have hcz37_1 : wr.cell? ⟨gb166, 1, none⟩ = some (.slice (some ad167) l0_1.length c0_1) := (blk_cell BK166.out 1).trans rfl
      have hfz37_0 := blk_frozen BK166.out 0
      have hfz37_1 := blk_frozen BK166.out 1
      go_wp2
      go_ret
      exact ⟨by first | rfl | (simp [errW_none, errW_some] <;> rfl) | (simp [*, errW_none, errW_some] <;> rfl), by repeat (first | (with_reducible first | exact HB.out | apply below_alloc | apply pw_below_drewN | apply below_drew1 | refine below_set ?_ GE166.out) | exact HB.out)⟩
  ·rw [if_neg c6] at H
   exact absurd H (by simp)
 ·rw [if_neg c5] at H
  exact absurd H (by simp)

end Go.Proofs.YtjknaokhcbjbhaaDoor.Q
