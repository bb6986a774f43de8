-- Written for this claim by the session's own driver (wip/qprint.py) over the kit's printer, out of the translation. Not trusted: Lean checks it.
import Derived.Test.YtefenbhcbpfihaaDoorM0
import Derived.Test.YtefenbhcbpfihaaDoorQ10
import Derived.Test.YtefenbhcbpfihaaDoorHgapB
import Derived.Test.YtefenbhcbpfihaaDoorHgapC
import Derived.Test.YtefenbhcbpfihaaDoorHgapK
import Derived.Test.YtefenbhcbpfihaaDoorQ24a
namespace Go.Proofs.YtefenbhcbpfihaaDoor.Q
open Go.RowKit Go.Proofs.YtefenbhcbpfihaaDoorW.PrintWords Go.Proofs.YtefenbhcbpfihaaDoorW.PrintLast Go.Proofs.YtefenbhcbpfihaaDoorW.PrintMore
attribute [local go_sem] max2_int min2_int max_two min_two max_three min_three max_four min_four   -- for this text's walks alone
set_option linter.unusedVariables false
set_option linter.unusedSimpArgs false

abbrev z0_ := @blk_drewN
abbrev z1_ := @blk_drew
abbrev z2_ := @blk_alloc
abbrev z3_ := @below_set
abbrev z4_ := @pw_below_drewN
abbrev z5_ := @below_drew1
abbrev z6_ := @below_alloc
abbrev z7_ := @Kd.R_drewN
abbrev z8_ := @Kd.R_drew
abbrev z9_ := @Kd.R_alloc
abbrev z10_ := @Kd.R_below
abbrev z12_ := @Kd.R_far
abbrev z15_ := @List.setIfInBounds_toArray.{0}
abbrev z16_ := @List.set_cons_zero.{0}
abbrev z17_ := @List.set_cons_succ.{0}
abbrev z20_ := @blk_below
abbrev z23_ := @blk_cell
abbrev z24_ := @below_step
set_option maxHeartbeats 8000000 in
set_option maxRecDepth 100000 in
theorem pendulumlaw21_GapBursts.calls (k : Nat) (a0_0 : Int) (A0_1 : Option Addr) (c0_1 : Nat) (l0_1 : List (S39)) (a1 : Int) (r : Bool) (w : World) (hr0_1 : Kd.C k39 w A0_1 l0_1.length l0_1) (hc0_1 : l0_1.length ≤ c0_1) (h : pendulumlaw21_GapBursts.f k a0_0 l0_1 a1 = some r) (hr : r = true) :
  Calls Tryd.prog 4 #[.agg #[.int .i64 a0_0, .slice A0_1 l0_1.length c0_1], .int .u8 a1] w fun e w' => e = .returned (.bool r) ∧ Below w.heap.size w w' := by
 have hu24 := Tryd.underlying24
 have hu30 := Tryd.underlying30
 have HR0_1 := Aside0.mk hr0_1
 have HC0_1 := Aside0.mk hc0_1
 clear hr0_1 hc0_1
 have HB := Aside0.mk (Below.refl w.heap.size w)
 have H : ((pendulumlaw21_awake.f).bind fun t214 => (if t214 = true then ((pendulumref19_Small.f k a0_0 l0_1).bind fun t215 => (if t215 = true then ((pendulumref05_Right.f a0_0 l0_1).bind fun t216 => (pendulumlaw21_GapBursts.j0 k a1 (!t216) a0_0 l0_1)) else (pendulumlaw21_GapBursts.j0 k a1 true a0_0 l0_1))) else (pendulumlaw21_GapBursts.j0 k a1 true a0_0 l0_1))) = some r := h
 clear h
 have HC3 := Aside0.mk H
 clear H
 go_enter Tryd.func4, Tryd.ntmps4
 go_upto_region 1 with (first | ((with_reducible refine gate_dst (N := 2) rfl ?_); refine box_event ?hg (N := 2) ?hd (cs := #[.int .i64 a0_0, .slice A0_1 l0_1.length c0_1]) (t := 24) ?hr ?_; (case hd => rfl); (case hg => rfl); (case hr => first | (go_simp; done) | (go_simp; rfl)); intro gb213 hg w4 hbox hb; have n0_ := Aside0.mk (z24_ (by repeat (first | (with_reducible first | exact HB.out | apply z6_ | apply z4_ | apply z5_) | exact HB.out)) hb); have n1_ := Aside0.mk (hbox); have n2_ := Aside0.mk ((by rw [hg]; exact (below_size (by repeat (first | (with_reducible first | exact HB.out | apply z6_ | apply z4_ | apply z5_) | exact HB.out))) : w.heap.size ≤ gb213)); have n3_ := Aside0.mk ((by rw [hg]; exact (below_size (by repeat (first | (with_reducible first | exact HB.out | apply z6_ | apply z4_ | apply z5_) | exact HB.out))) : w.heap.size ≤ gb213)); clear HB; have HB := n0_; have BK213 := n1_; have GW213 := n2_; have GE213 := n3_; clear n0_ n1_ n2_ n3_; clear hb hbox hg))
 (try simp only [Act.put, z15_, z16_, z17_])
 go_cut [28] (fun v28 wc => ∃ (kq : Nat) (x28_2 : Bool), v28 = .bool x28_2 ∧ Aside0 (pendulumlaw21_GapBursts.j0 kq a1 x28_2 a0_0 l0_1 = some r) ∧ Aside0 (kq ≤ k) ∧ Aside0 (wc.heap[gb213]? = some (.cells #[.int .i64 a0_0, (.slice A0_1 l0_1.length c0_1)] 24 (0, 0))) ∧ Aside0 (Below w.heap.size w wc))
 case first => as_aux_lemma =>
  have H := HC3.out
  clear HC3
  replace H := Option.bind_eq_some_iff.mp H
  obtain ⟨t214, A50, H⟩ := H
  replace H : (if t214 = true then ((pendulumref19_Small.f k a0_0 l0_1).bind fun t215 => (if t215 = true then ((pendulumref05_Right.f a0_0 l0_1).bind fun t216 => (pendulumlaw21_GapBursts.j0 k a1 (!t216) a0_0 l0_1)) else (pendulumlaw21_GapBursts.j0 k a1 true a0_0 l0_1))) else (pendulumlaw21_GapBursts.j0 k a1 true a0_0 l0_1)) = some r := H
  have A5 := Aside0.mk A50
  clear A50
  by_cases c6 : t214 = true
  ·subst c6
   have H1 : ((pendulumref19_Small.f k a0_0 l0_1).bind fun t215 => (if t215 = true then ((pendulumref05_Right.f a0_0 l0_1).bind fun t216 => (pendulumlaw21_GapBursts.j0 k a1 (!t216) a0_0 l0_1)) else (pendulumlaw21_GapBursts.j0 k a1 true a0_0 l0_1))) = some r := by rw [if_pos rfl] at H; exact H
   clear H
   have H := H1
   clear H1
   replace H := Option.bind_eq_some_iff.mp H
   obtain ⟨t215, A70, H⟩ := H
   replace H : (if t215 = true then ((pendulumref05_Right.f a0_0 l0_1).bind fun t216 => (pendulumlaw21_GapBursts.j0 k a1 (!t216) a0_0 l0_1)) else (pendulumlaw21_GapBursts.j0 k a1 true a0_0 l0_1)) = some r := H
   have A7 := Aside0.mk A70
   clear A70
   by_cases c8 : t215 = true
   ·subst c8
    have H1 : ((pendulumref05_Right.f a0_0 l0_1).bind fun t216 => (pendulumlaw21_GapBursts.j0 k a1 (!t216) a0_0 l0_1)) = some r := by rw [if_pos rfl] at H; exact H
    clear H
    have H := H1
    clear H1
    replace H := Option.bind_eq_some_iff.mp H
    obtain ⟨t216, A90, H⟩ := H
    replace H : (pendulumlaw21_GapBursts.j0 k a1 (!t216) a0_0 l0_1) = some r := H
    have A9 := Aside0.mk A90
    clear A90
    have H' := Aside0.mk H
    clear H
    go_wp2_with (first | ((with_reducible refine gate_callee (f := 7) rfl ?_); refine goesL_ (some 17) rfl rfl Tryd.func7 (by kernel_rfl) rfl #[] rfl (by (try simp only [List.map_toArray, List.map_cons, List.map_nil]); first | done | rfl | (simp only [List.length_drop, List.length_take]; rfl)) ?_; (with_reducible refine (pendulumlaw21_awake.calls  true _ A5.out).mono ?_); rintro e w10 ⟨rfl, hb⟩; refine ⟨_, rfl, ?_⟩; have n0_ := Aside0.mk (z20_ (g := gb213) (o := .cells #[.int .i64 a0_0, .slice A0_1 l0_1.length c0_1] 24 (0, 0)) (by (with_reducible repeat (first | refine z0_ ?_ _ | refine z1_ ?_ | refine z2_ ?_ _)); exact BK213.out) hb); have n1_ := Aside0.mk (z24_ (by repeat (first | (with_reducible first | exact HB.out | apply z6_ | apply z4_ | apply z5_ | refine z3_ ?_ GE213.out) | exact HB.out)) hb); clear BK213; clear HB; have BK213 := n0_; have HB := n1_; clear n0_ n1_; (try clear hb); (try clear hb2); (try clear hk); (try clear hi); have hcz11_0 : w10.cell? ⟨gb213, 0, none⟩ = some (.int .i64 a0_0) := (z23_ BK213.out 0).trans rfl; have hcz11_1 : w10.cell? ⟨gb213, 1, none⟩ = some (.slice A0_1 l0_1.length c0_1) := (z23_ BK213.out 1).trans rfl; have hfz11_0 := blk_frozen BK213.out 0; have hfz11_1 := blk_frozen BK213.out 1) | (go_at_call 10; (with_reducible refine (pendulumref19_Small.calls k a0_0 _ _ l0_1 true _ ?side1 ?side2 A7.out).mono ?_); (case side1 => repeat (first | exact (Kd.C_below HR0_1.out HB.out) | (with_reducible refine Kd.C_alloc ?_ _) | (with_reducible refine Kd.C_drewN ?_ _) | (with_reducible refine Kd.C_drew ?_))); (case side2 => exact HC0_1.out); rintro e w12 ⟨rfl, hb⟩; have n0_ := Aside0.mk (z20_ (g := gb213) (o := .cells #[.int .i64 a0_0, .slice A0_1 l0_1.length c0_1] 24 (0, 0)) (by (with_reducible repeat (first | refine z0_ ?_ _ | refine z1_ ?_ | refine z2_ ?_ _)); exact BK213.out) hb); have n1_ := Aside0.mk (z24_ (by repeat (first | (with_reducible first | exact HB.out | apply z6_ | apply z4_ | apply z5_ | refine z3_ ?_ GE213.out) | exact HB.out)) hb); clear BK213; clear HB; have BK213 := n0_; have HB := n1_; clear n0_ n1_; (try clear hb); (try clear hb2); (try clear hk); (try clear hi); have hcz13_0 : w12.cell? ⟨gb213, 0, none⟩ = some (.int .i64 a0_0) := (z23_ BK213.out 0).trans rfl; have hcz13_1 : w12.cell? ⟨gb213, 1, none⟩ = some (.slice A0_1 l0_1.length c0_1) := (z23_ BK213.out 1).trans rfl; have hfz13_0 := blk_frozen BK213.out 0; have hfz13_1 := blk_frozen BK213.out 1) | (go_at_call 9; (with_reducible refine (pendulumref05_Right.calls a0_0 _ _ l0_1 t216 _ ?side1 ?side2 A9.out).mono ?_); (case side1 => repeat (first | exact (Kd.C_below HR0_1.out HB.out) | (with_reducible refine Kd.C_alloc ?_ _) | (with_reducible refine Kd.C_drewN ?_ _) | (with_reducible refine Kd.C_drew ?_))); (case side2 => exact HC0_1.out); rintro e w14 ⟨rfl, hb⟩; have n0_ := Aside0.mk (z20_ (g := gb213) (o := .cells #[.int .i64 a0_0, .slice A0_1 l0_1.length c0_1] 24 (0, 0)) (by (with_reducible repeat (first | refine z0_ ?_ _ | refine z1_ ?_ | refine z2_ ?_ _)); exact BK213.out) hb); have n1_ := Aside0.mk (z24_ (by repeat (first | (with_reducible first | exact HB.out | apply z6_ | apply z4_ | apply z5_ | refine z3_ ?_ GE213.out) | exact HB.out)) hb); clear BK213; clear HB; have BK213 := n0_; have HB := n1_; clear n0_ n1_; (try clear hb); (try clear hb2); (try clear hk); (try clear hi)))
    go_meet
    case rel => exact ⟨_, (!t216), (by first | rfl | (simp; done) | (simp [*]; done)), H', ⟨by first | omega | exact Nat.le_refl _⟩, ⟨by (with_reducible repeat (first | refine z0_ ?_ _ | refine z1_ ?_ | refine z2_ ?_ _)); exact BK213.out⟩, ⟨by repeat (first | (with_reducible first | exact HB.out | apply z6_ | apply z4_ | apply z5_ | refine z3_ ?_ GE213.out) | exact HB.out)⟩⟩
   ·replace c8 := Bool.eq_false_iff.mpr c8
    subst c8
    have H1 : (pendulumlaw21_GapBursts.j0 k a1 true a0_0 l0_1) = some r := by rw [if_neg (show ¬ (false = true) by decide)] at H; exact H
    clear H
    have H := H1
    clear H1
    have H' := Aside0.mk H
    clear H
    go_wp2_with (first | ((with_reducible refine gate_callee (f := 7) rfl ?_); refine goesL_ (some 17) rfl rfl Tryd.func7 (by kernel_rfl) rfl #[] rfl (by (try simp only [List.map_toArray, List.map_cons, List.map_nil]); first | done | rfl | (simp only [List.length_drop, List.length_take]; rfl)) ?_; (with_reducible refine (pendulumlaw21_awake.calls  true _ A5.out).mono ?_); rintro e w15 ⟨rfl, hb⟩; refine ⟨_, rfl, ?_⟩; have n0_ := Aside0.mk (z20_ (g := gb213) (o := .cells #[.int .i64 a0_0, .slice A0_1 l0_1.length c0_1] 24 (0, 0)) (by (with_reducible repeat (first | refine z0_ ?_ _ | refine z1_ ?_ | refine z2_ ?_ _)); exact BK213.out) hb); have n1_ := Aside0.mk (z24_ (by repeat (first | (with_reducible first | exact HB.out | apply z6_ | apply z4_ | apply z5_ | refine z3_ ?_ GE213.out) | exact HB.out)) hb); clear BK213; clear HB; have BK213 := n0_; have HB := n1_; clear n0_ n1_; (try clear hb); (try clear hb2); (try clear hk); (try clear hi); have hcz16_0 : w15.cell? ⟨gb213, 0, none⟩ = some (.int .i64 a0_0) := (z23_ BK213.out 0).trans rfl; have hcz16_1 : w15.cell? ⟨gb213, 1, none⟩ = some (.slice A0_1 l0_1.length c0_1) := (z23_ BK213.out 1).trans rfl; have hfz16_0 := blk_frozen BK213.out 0; have hfz16_1 := blk_frozen BK213.out 1) | (go_at_call 10; (with_reducible refine (pendulumref19_Small.calls k a0_0 _ _ l0_1 false _ ?side1 ?side2 A7.out).mono ?_); (case side1 => repeat (first | exact (Kd.C_below HR0_1.out HB.out) | (with_reducible refine Kd.C_alloc ?_ _) | (with_reducible refine Kd.C_drewN ?_ _) | (with_reducible refine Kd.C_drew ?_))); (case side2 => exact HC0_1.out); rintro e w17 ⟨rfl, hb⟩; have n0_ := Aside0.mk (z20_ (g := gb213) (o := .cells #[.int .i64 a0_0, .slice A0_1 l0_1.length c0_1] 24 (0, 0)) (by (with_reducible repeat (first | refine z0_ ?_ _ | refine z1_ ?_ | refine z2_ ?_ _)); exact BK213.out) hb); have n1_ := Aside0.mk (z24_ (by repeat (first | (with_reducible first | exact HB.out | apply z6_ | apply z4_ | apply z5_ | refine z3_ ?_ GE213.out) | exact HB.out)) hb); clear BK213; clear HB; have BK213 := n0_; have HB := n1_; clear n0_ n1_; (try clear hb); (try clear hb2); (try clear hk); (try clear hi)))
    go_meet
    case rel => exact ⟨_, (true), (by first | rfl | (simp; done) | (simp [*]; done)), H', ⟨by first | omega | exact Nat.le_refl _⟩, ⟨by (with_reducible repeat (first | refine z0_ ?_ _ | refine z1_ ?_ | refine z2_ ?_ _)); exact BK213.out⟩, ⟨by repeat (first | (with_reducible first | exact HB.out | apply z6_ | apply z4_ | apply z5_ | refine z3_ ?_ GE213.out) | exact HB.out)⟩⟩
  ·replace c6 := Bool.eq_false_iff.mpr c6
   subst c6
   have H1 : (pendulumlaw21_GapBursts.j0 k a1 true a0_0 l0_1) = some r := by rw [if_neg (show ¬ (false = true) by decide)] at H; exact H
   clear H
   have H := H1
   clear H1
   have H' := Aside0.mk H
   clear H
   go_wp2_with (first | ((with_reducible refine gate_callee (f := 7) rfl ?_); refine goesL_ (some 17) rfl rfl Tryd.func7 (by kernel_rfl) rfl #[] rfl (by (try simp only [List.map_toArray, List.map_cons, List.map_nil]); first | done | rfl | (simp only [List.length_drop, List.length_take]; rfl)) ?_; (with_reducible refine (pendulumlaw21_awake.calls  false _ A5.out).mono ?_); rintro e w18 ⟨rfl, hb⟩; refine ⟨_, rfl, ?_⟩; have n0_ := Aside0.mk (z20_ (g := gb213) (o := .cells #[.int .i64 a0_0, .slice A0_1 l0_1.length c0_1] 24 (0, 0)) (by (with_reducible repeat (first | refine z0_ ?_ _ | refine z1_ ?_ | refine z2_ ?_ _)); exact BK213.out) hb); have n1_ := Aside0.mk (z24_ (by repeat (first | (with_reducible first | exact HB.out | apply z6_ | apply z4_ | apply z5_ | refine z3_ ?_ GE213.out) | exact HB.out)) hb); clear BK213; clear HB; have BK213 := n0_; have HB := n1_; clear n0_ n1_; (try clear hb); (try clear hb2); (try clear hk); (try clear hi)))
   go_meet
   case rel => exact ⟨_, (true), (by first | rfl | (simp; done) | (simp [*]; done)), H', ⟨by first | omega | exact Nat.le_refl _⟩, ⟨by (with_reducible repeat (first | refine z0_ ?_ _ | refine z1_ ?_ | refine z2_ ?_ _)); exact BK213.out⟩, ⟨by repeat (first | (with_reducible first | exact HB.out | apply z6_ | apply z4_ | apply z5_ | refine z3_ ?_ GE213.out) | exact HB.out)⟩⟩
 case rest => as_aux_lemma =>
  clear HC3
  try clear p2
  try clear c4
  try clear c6
  try clear c7
  try clear c8
  try clear hcz11_0
  try clear hcz11_1
  try clear hcz13_0
  try clear hcz13_1
  try clear hcz16_0
  try clear hcz16_1
  try clear hfz11_0
  try clear hfz11_1
  try clear hfz13_0
  try clear hfz13_1
  try clear hfz16_0
  try clear hfz16_1
  obtain ⟨kq, x28_2, rfl, HA, HJ2, BK213, HB⟩ := hcut
  cases kq with
  | zero => exact absurd HA.out (by simp [pendulumlaw21_GapBursts.j0])
  | succ kj2 =>
   have H := HA.out
   clear HA
   simp only [pendulumlaw21_GapBursts.j0] at H
   by_cases c19 : x28_2 = true
   ·subst c19
    have H1 : ((pendulumlaw21_awake.f).bind fun t217 => (some t217)) = some r := by rw [if_pos rfl] at H; exact H
    clear H
    have H := H1
    clear H1
    replace H := Option.bind_eq_some_iff.mp H
    obtain ⟨t217, A200, H⟩ := H
    replace H : (some t217) = some r := H
    have A20 := Aside0.mk A200
    clear A200
    obtain rfl := Option.some.inj H
    go_wp2_with (first | ((with_reducible refine gate_callee (f := 7) rfl ?_); refine goesL_ (some 29) rfl rfl Tryd.func7 (by kernel_rfl) rfl #[] rfl (by (try simp only [List.map_toArray, List.map_cons, List.map_nil]); first | done | rfl | (simp only [List.length_drop, List.length_take]; rfl)) ?_; (with_reducible refine (pendulumlaw21_awake.calls  t217 _ A20.out).mono ?_); rintro e w21 ⟨rfl, hb⟩; refine ⟨_, rfl, ?_⟩; have n0_ := Aside0.mk (z20_ (g := gb213) (o := .cells #[.int .i64 a0_0, .slice A0_1 l0_1.length c0_1] 24 (0, 0)) (by (with_reducible repeat (first | refine z0_ ?_ _ | refine z1_ ?_ | refine z2_ ?_ _)); exact BK213.out) hb); have n1_ := Aside0.mk (z24_ (by repeat (first | (with_reducible first | exact HB.out | apply z6_ | apply z4_ | apply z5_ | refine z3_ ?_ GE213.out) | exact HB.out)) hb); clear BK213; clear HB; have BK213 := n0_; have HB := n1_; clear n0_ n1_; (try clear hb); (try clear hb2); (try clear hk); (try clear hi)))
    go_ret
    exact ⟨by first | rfl | (simp [errW_none, errW_some] <;> rfl) | (simp [*, errW_none, errW_some] <;> rfl), by repeat (first | (with_reducible first | exact HB.out | apply z6_ | apply z4_ | apply z5_ | refine z3_ ?_ GE213.out) | exact HB.out)⟩
   ·replace c19 := Bool.eq_false_iff.mpr c19
    subst c19
    have H1 : (if (wrap64 (a0_0 + (wrap64 (Int.tmod a1 5)))) > 1000 then (pendulumlaw21_GapBursts.j1 kj2 a0_0 l0_1 1000 l0_1) else (pendulumlaw21_GapBursts.j1 kj2 a0_0 l0_1 (wrap64 (a0_0 + (wrap64 (Int.tmod a1 5)))) l0_1)) = some r := by rw [if_neg (show ¬ (false = true) by decide)] at H; exact H
    clear H
    have H := H1
    clear H1
    have HC22 := Aside0.mk H
    clear H
    have hcz23_0 : wc.cell? ⟨gb213, 0, none⟩ = some (.int .i64 a0_0) := (z23_ BK213.out 0).trans rfl
    have hcz23_1 : wc.cell? ⟨gb213, 1, none⟩ = some (.slice A0_1 l0_1.length c0_1) := (z23_ BK213.out 1).trans rfl
    have hfz23_0 := blk_frozen BK213.out 0
    have hfz23_1 := blk_frozen BK213.out 1
    go_upto_if 41 with (first | ((with_reducible refine gate_dst (N := 5) rfl ?_); refine box_event ?hg (N := 5) ?hd (cs := #[.int .i64 0, .slice none 0 0]) (t := 24) ?hr ?_; (case hd => rfl); (case hg => rfl); (case hr => first | (go_simp; done) | (go_simp; rfl)); intro gb218 hg w24 hbox hb; have n0_ := Aside0.mk (z20_ (g := gb213) (o := .cells #[.int .i64 a0_0, .slice A0_1 l0_1.length c0_1] 24 (0, 0)) (by (with_reducible repeat (first | refine z0_ ?_ _ | refine z1_ ?_ | refine z2_ ?_ _)); exact BK213.out) hb); have n1_ := Aside0.mk (z24_ (by repeat (first | (with_reducible first | exact HB.out | apply z6_ | apply z4_ | apply z5_ | refine z3_ ?_ GE213.out) | exact HB.out)) hb); have n2_ := Aside0.mk (hbox); have n3_ := Aside0.mk ((by rw [hg]; exact (below_size (by repeat (first | (with_reducible first | exact HB.out | apply z6_ | apply z4_ | apply z5_ | refine z3_ ?_ GE213.out) | exact HB.out))) : w.heap.size ≤ gb218)); have n4_ := Aside0.mk ((by rw [hg]; exact (below_size (by repeat (first | (with_reducible first | exact HB.out | apply z6_ | apply z4_ | apply z5_ | refine z3_ ?_ GE213.out) | exact HB.out))) : w.heap.size ≤ gb218)); have n5_ := Aside0.mk ((by rw [hg]; exact Nat.ne_of_lt (blk_lt (g := gb213) (o := .cells #[.int .i64 a0_0, .slice A0_1 l0_1.length c0_1] 24 (0, 0)) (by (with_reducible repeat (first | refine z0_ ?_ _ | refine z1_ ?_ | refine z2_ ?_ _)); exact BK213.out)) : gb213 ≠ gb218)); have n6_ := Aside0.mk ((by rw [hg]; exact Nat.ne_of_gt (blk_lt (g := gb213) (o := .cells #[.int .i64 a0_0, .slice A0_1 l0_1.length c0_1] 24 (0, 0)) (by (with_reducible repeat (first | refine z0_ ?_ _ | refine z1_ ?_ | refine z2_ ?_ _)); exact BK213.out)) : gb218 ≠ gb213)); clear BK213; clear HB; have BK213 := n0_; have HB := n1_; have BK218 := n2_; have GW218 := n3_; have GE218 := n4_; have NB213_218 := n5_; have NB218_213 := n6_; clear n0_ n1_ n2_ n3_ n4_ n5_ n6_; clear hb hbox hg; have hnb25 := NB218_213.out; have hnc25 := NB213_218.out; have hcz26_0 : w24.cell? ⟨gb218, 0, none⟩ = some (.int .i64 0) := (z23_ BK218.out 0).trans rfl; have hcz26_1 : w24.cell? ⟨gb218, 1, none⟩ = some (.slice none 0 0) := (z23_ BK218.out 1).trans rfl; have hfz26_0 := blk_frozen BK218.out 0; have hfz26_1 := blk_frozen BK218.out 1))
    (try simp only [Act.put, z15_, z16_, z17_])
    go_cut [] (fun wc => ∃ (kq : Nat) (x219000_21 : Int), Aside0 (pendulumlaw21_GapBursts.j1 kq a0_0 l0_1 x219000_21 l0_1 = some r) ∧ Aside0 (kq ≤ kj2) ∧ Aside0 (wc.heap[gb213]? = some (.cells #[.int .i64 a0_0, (.slice A0_1 l0_1.length c0_1)] 24 (0, 0))) ∧ Aside0 (wc.heap[gb218]? = some (.cells #[.int .i64 x219000_21, (.slice A0_1 l0_1.length c0_1)] 24 (0, 0))) ∧ Aside0 (Below w.heap.size w wc))
    case first => as_aux_lemma =>
     have H := HC22.out
     clear HC22
     by_cases c27 : (wrap64 (a0_0 + (wrap64 (Int.tmod a1 5)))) > 1000
     ·rw [if_pos c27] at H
      have c27b0 : decide (1000 < (wrap64 (a0_0 + (wrap64 (Int.tmod a1 5))))) = true := decide_eq_true c27
      clear c27
      (first | rw [c27b0] | (simp only [i64_w, i32_w]; rw [c27b0]) | skip)
      have H' := Aside0.mk H
      clear H
      have hnb28 := NB218_213.out
      have hnc28 := NB213_218.out
      have hcz29_0 : w24.cell? ⟨gb218, 0, none⟩ = some (.int .i64 0) := (z23_ BK218.out 0).trans rfl
      have hcz29_1 : w24.cell? ⟨gb218, 1, none⟩ = some (.slice none 0 0) := (z23_ BK218.out 1).trans rfl
      have hfz29_0 := blk_frozen BK218.out 0
      have hfz29_1 := blk_frozen BK218.out 1
      go_wp2
      go_meet
      case rel => exact ⟨_, (1000), H', ⟨by have := HJ2.out; first | omega | exact Nat.le_refl _⟩, ⟨by (with_reducible repeat (first | refine z0_ ?_ _ | refine z1_ ?_ | refine z2_ ?_ _)); refine blk_far ?_ NB213_218.out _; (with_reducible repeat (first | refine z0_ ?_ _ | refine z1_ ?_ | refine z2_ ?_ _)); refine blk_far ?_ NB213_218.out _; (with_reducible repeat (first | refine z0_ ?_ _ | refine z1_ ?_ | refine z2_ ?_ _)); refine blk_far ?_ NB213_218.out _; (with_reducible repeat (first | refine z0_ ?_ _ | refine z1_ ?_ | refine z2_ ?_ _)); exact BK213.out⟩, ⟨by (with_reducible repeat (first | refine z0_ ?_ _ | refine z1_ ?_ | refine z2_ ?_ _)); refine blk_put (cs := #[.int .i64 (wrap64 (a0_0 + (wrap64 (Int.tmod a1 5)))), .slice A0_1 l0_1.length c0_1]) ?_ 0 _ rfl; (with_reducible repeat (first | refine z0_ ?_ _ | refine z1_ ?_ | refine z2_ ?_ _)); refine blk_put (cs := #[.int .i64 (wrap64 (a0_0 + (wrap64 (Int.tmod a1 5)))), .slice none 0 0]) ?_ 1 _ rfl; (with_reducible repeat (first | refine z0_ ?_ _ | refine z1_ ?_ | refine z2_ ?_ _)); refine blk_put (cs := #[.int .i64 0, .slice none 0 0]) ?_ 0 _ rfl; (with_reducible repeat (first | refine z0_ ?_ _ | refine z1_ ?_ | refine z2_ ?_ _)); exact BK218.out⟩, ⟨by repeat (first | (with_reducible first | exact HB.out | apply z6_ | apply z4_ | apply z5_ | refine z3_ ?_ GE213.out | refine z3_ ?_ GE218.out) | exact HB.out)⟩⟩
     ·rw [if_neg c27] at H
      have c27b0 : decide (1000 < (wrap64 (a0_0 + (wrap64 (Int.tmod a1 5))))) = false := decide_eq_false c27
      clear c27
      (first | rw [c27b0] | (simp only [i64_w, i32_w]; rw [c27b0]) | skip)
      have H' := Aside0.mk H
      clear H
      go_wp2
      go_meet
      case rel => exact ⟨_, (wrap64 (a0_0 + (wrap64 (Int.tmod a1 5)))), H', ⟨by have := HJ2.out; first | omega | exact Nat.le_refl _⟩, ⟨by (with_reducible repeat (first | refine z0_ ?_ _ | refine z1_ ?_ | refine z2_ ?_ _)); refine blk_far ?_ NB213_218.out _; (with_reducible repeat (first | refine z0_ ?_ _ | refine z1_ ?_ | refine z2_ ?_ _)); refine blk_far ?_ NB213_218.out _; (with_reducible repeat (first | refine z0_ ?_ _ | refine z1_ ?_ | refine z2_ ?_ _)); exact BK213.out⟩, ⟨by (with_reducible repeat (first | refine z0_ ?_ _ | refine z1_ ?_ | refine z2_ ?_ _)); refine blk_put (cs := #[.int .i64 (wrap64 (a0_0 + (wrap64 (Int.tmod a1 5)))), .slice none 0 0]) ?_ 1 _ rfl; (with_reducible repeat (first | refine z0_ ?_ _ | refine z1_ ?_ | refine z2_ ?_ _)); refine blk_put (cs := #[.int .i64 0, .slice none 0 0]) ?_ 0 _ rfl; (with_reducible repeat (first | refine z0_ ?_ _ | refine z1_ ?_ | refine z2_ ?_ _)); exact BK218.out⟩, ⟨by repeat (first | (with_reducible first | exact HB.out | apply z6_ | apply z4_ | apply z5_ | refine z3_ ?_ GE213.out | refine z3_ ?_ GE218.out) | exact HB.out)⟩⟩
    case rest => as_aux_lemma =>
     clear HC22
     try clear c1
     try clear c2
     try clear p2
     try clear c4
     try clear c6
     try clear p6
     try clear c7
     try clear c8
     try clear c19
     try clear c25
     try clear c27
     try clear c27b0
     try clear c28
     try clear hcz11_0
     try clear hcz11_1
     try clear hcz13_0
     try clear hcz13_1
     try clear hcz16_0
     try clear hcz16_1
     try clear hcz23_0
     try clear hcz23_1
     try clear hcz26_0
     try clear hcz26_1
     try clear hcz29_0
     try clear hcz29_1
     try clear hfz11_0
     try clear hfz11_1
     try clear hfz13_0
     try clear hfz13_1
     try clear hfz16_0
     try clear hfz16_1
     try clear hfz23_0
     try clear hfz23_1
     try clear hfz26_0
     try clear hfz26_1
     try clear hfz29_0
     try clear hfz29_1
     try clear p2
     obtain ⟨kq, x219000_21, HA, HJ21, BK213, BK218, HB⟩ := hcut
     cases kq with
     | zero => exact absurd HA.out (by simp [pendulumlaw21_GapBursts.j1])
     | succ kj21 =>
      have H := HA.out
      clear HA
      simp only [pendulumlaw21_GapBursts.j1] at H
      replace H := Option.bind_eq_some_iff.mp H
      obtain ⟨⟨t219, t220, t221, t222, t225⟩, A300, H⟩ := H
      replace H : ((gap_Least.f x219000_21 l0_1).bind fun bt227 => (if t225 = 0 then (if bt227.2.2.2.2 = 0 then (pendulumlaw21_GapBursts.j2 kj21 t219 (decide (bt227.1 < t219)) a0_0 l0_1) else (pendulumlaw21_GapBursts.j2 kj21 t219 false a0_0 l0_1)) else (if bt227.2.2.2.2 = 4 then (some (bt227.1 == 0)) else (some false)))) = some r := H
      have A30 := Aside0.mk A300
      clear A300
      replace H := Option.bind_eq_some_iff.mp H
      obtain ⟨⟨t227, t228, t229, t230, t233⟩, A310, H⟩ := H
      replace H : (if t225 = 0 then (if t233 = 0 then (pendulumlaw21_GapBursts.j2 kj21 t219 (decide (t227 < t219)) a0_0 l0_1) else (pendulumlaw21_GapBursts.j2 kj21 t219 false a0_0 l0_1)) else (if t233 = 4 then (some (t227 == 0)) else (some false))) = some r := H
      have A31 := Aside0.mk A310
      clear A310
      by_cases c32 : t225 = 0
      ·rw [if_pos c32] at H
       have c32b0 : (t225 == 0) = true := beq_iff_eq.mpr c32
       have c32b1 : (t225 != 0) = false := bne_eq_false_iff_eq.mpr c32
       clear c32
       have HC33 := Aside0.mk H
       clear H
       have hnb34 := NB213_218.out
       have hnc34 := NB218_213.out
       have hcz35_0 : wc.cell? ⟨gb213, 0, none⟩ = some (.int .i64 a0_0) := (z23_ BK213.out 0).trans rfl
       have hcz35_1 : wc.cell? ⟨gb213, 1, none⟩ = some (.slice A0_1 l0_1.length c0_1) := (z23_ BK213.out 1).trans rfl
       have hfz35_0 := blk_frozen BK213.out 0
       have hfz35_1 := blk_frozen BK213.out 1
       go_upto_region 10 with (first | ((with_reducible refine gate_callee (f := 11) rfl ?_); refine goesL_ (some 45) rfl rfl Tryd.func11 (by kernel_rfl) rfl #[.agg #[.int .i64 a0_0, .slice A0_1 l0_1.length c0_1]] rfl (by (try simp only [List.map_toArray, List.map_cons, List.map_nil]); first | done | rfl | (simp only [List.length_drop, List.length_take]; rfl)) ?_; (with_reducible refine (gap_Least.calls a0_0 _ _ l0_1 t219 t220 t221 t222 t225 _ ?side1 ?side2 A30.out).mono ?_); (case side1 => repeat (first | exact (Kd.C_below HR0_1.out HB.out) | (with_reducible refine Kd.C_alloc ?_ _) | (with_reducible refine Kd.C_drewN ?_ _) | (with_reducible refine Kd.C_drew ?_))); (case side2 => exact HC0_1.out); rintro e w36 ⟨v223, rfl, ho0, hb⟩; refine ⟨_, rfl, ?_⟩; have n0_ := Aside0.mk (Kd.R_lower ho0 (below_size (by repeat (first | (with_reducible first | exact HB.out | apply z6_ | apply z4_ | apply z5_ | refine z3_ ?_ GE213.out | refine z3_ ?_ GE218.out) | exact HB.out)))); have n1_ := Aside0.mk (z20_ (g := gb213) (o := .cells #[.int .i64 a0_0, .slice A0_1 l0_1.length c0_1] 24 (0, 0)) (by (with_reducible repeat (first | refine z0_ ?_ _ | refine z1_ ?_ | refine z2_ ?_ _)); exact BK213.out) hb); have n2_ := Aside0.mk (z20_ (g := gb218) (o := .cells #[.int .i64 x219000_21, .slice A0_1 l0_1.length c0_1] 24 (0, 0)) (by (with_reducible repeat (first | refine z0_ ?_ _ | refine z1_ ?_ | refine z2_ ?_ _)); exact BK218.out) hb); have n3_ := Aside0.mk (z24_ (by repeat (first | (with_reducible first | exact HB.out | apply z6_ | apply z4_ | apply z5_ | refine z3_ ?_ GE213.out | refine z3_ ?_ GE218.out) | exact HB.out)) hb); clear BK213; clear BK218; clear HB; have HO224 := n0_; have BK213 := n1_; have BK218 := n2_; have HB := n3_; clear n0_ n1_ n2_ n3_; (try clear hb); (try clear hb2); (try clear hk); (try clear hi); (try clear ho0)) | ((with_reducible refine gate_dst (N := 7) rfl ?_); refine box_event ?hg (N := 7) ?hd (cs := #[.bool false, .int .i64 0, .slice none 0 0]) (t := 30) ?hr ?_; (case hd => rfl); (case hg => rfl); (case hr => first | (go_simp; done) | (go_simp; rfl)); intro gb226 hg w37 hbox hb; have n0_ := Aside0.mk (z10_ (by (with_reducible repeat (first | apply z9_ | apply z7_ | apply z8_)); exact HO224.out) hb); have n1_ := Aside0.mk (z20_ (g := gb213) (o := .cells #[.int .i64 a0_0, .slice A0_1 l0_1.length c0_1] 24 (0, 0)) (by (with_reducible repeat (first | refine z0_ ?_ _ | refine z1_ ?_ | refine z2_ ?_ _)); exact BK213.out) hb); have n2_ := Aside0.mk (z20_ (g := gb218) (o := .cells #[.int .i64 x219000_21, .slice A0_1 l0_1.length c0_1] 24 (0, 0)) (by (with_reducible repeat (first | refine z0_ ?_ _ | refine z1_ ?_ | refine z2_ ?_ _)); exact BK218.out) hb); have n3_ := Aside0.mk (z24_ (by repeat (first | (with_reducible first | exact HB.out | apply z6_ | apply z4_ | apply z5_ | refine z3_ ?_ GE213.out | refine z3_ ?_ GE218.out) | exact HB.out)) hb); have n4_ := Aside0.mk (hbox); have n5_ := Aside0.mk ((by rw [hg]; exact (below_size (by repeat (first | (with_reducible first | exact HB.out | apply z6_ | apply z4_ | apply z5_ | refine z3_ ?_ GE213.out | refine z3_ ?_ GE218.out) | exact HB.out))) : w.heap.size ≤ gb226)); have n6_ := Aside0.mk ((by rw [hg]; exact (below_size (by repeat (first | (with_reducible first | exact HB.out | apply z6_ | apply z4_ | apply z5_ | refine z3_ ?_ GE213.out | refine z3_ ?_ GE218.out) | exact HB.out))) : w.heap.size ≤ gb226)); have n7_ := Aside0.mk ((by rw [hg]; exact Nat.ne_of_lt (blk_lt (g := gb213) (o := .cells #[.int .i64 a0_0, .slice A0_1 l0_1.length c0_1] 24 (0, 0)) (by (with_reducible repeat (first | refine z0_ ?_ _ | refine z1_ ?_ | refine z2_ ?_ _)); exact BK213.out)) : gb213 ≠ gb226)); have n8_ := Aside0.mk ((by rw [hg]; exact Nat.ne_of_gt (blk_lt (g := gb213) (o := .cells #[.int .i64 a0_0, .slice A0_1 l0_1.length c0_1] 24 (0, 0)) (by (with_reducible repeat (first | refine z0_ ?_ _ | refine z1_ ?_ | refine z2_ ?_ _)); exact BK213.out)) : gb226 ≠ gb213)); have n9_ := Aside0.mk ((by rw [hg]; exact Nat.ne_of_lt (blk_lt (g := gb218) (o := .cells #[.int .i64 x219000_21, .slice A0_1 l0_1.length c0_1] 24 (0, 0)) (by (with_reducible repeat (first | refine z0_ ?_ _ | refine z1_ ?_ | refine z2_ ?_ _)); exact BK218.out)) : gb218 ≠ gb226)); have n10_ := Aside0.mk ((by rw [hg]; exact Nat.ne_of_gt (blk_lt (g := gb218) (o := .cells #[.int .i64 x219000_21, .slice A0_1 l0_1.length c0_1] 24 (0, 0)) (by (with_reducible repeat (first | refine z0_ ?_ _ | refine z1_ ?_ | refine z2_ ?_ _)); exact BK218.out)) : gb226 ≠ gb218)); clear HO224; clear BK213; clear BK218; clear HB; have HO224 := n0_; have BK213 := n1_; have BK218 := n2_; have HB := n3_; have BK226 := n4_; have GW226 := n5_; have GE226 := n6_; have NB213_226 := n7_; have NB226_213 := n8_; have NB218_226 := n9_; have NB226_218 := n10_; clear n0_ n1_ n2_ n3_ n4_ n5_ n6_ n7_ n8_ n9_ n10_; clear hb hbox hg; have hnb38 := NB226_213.out; have hnc38 := NB213_226.out; have hnb39 := NB226_218.out; have hnc39 := NB218_226.out; have hcz40_0 : w37.cell? ⟨gb226, 0, none⟩ = some (.bool false) := (z23_ BK226.out 0).trans rfl; have hcz40_1 : w37.cell? ⟨gb226, 1, none⟩ = some (.int .i64 0) := (z23_ BK226.out 1).trans rfl; have hcz40_2 : w37.cell? ⟨gb226, 2, none⟩ = some (.slice none 0 0) := (z23_ BK226.out 2).trans rfl; have hfz40_0 := blk_frozen BK226.out 0; have hfz40_1 := blk_frozen BK226.out 1; have hfz40_2 := blk_frozen BK226.out 2; obtain ⟨Ao41, co41, eo41⟩ := Kd.R_slice HO224.out; subst eo41; have hcz42_0 : w37.cell? ⟨gb218, 0, none⟩ = some (.int .i64 x219000_21) := (z23_ BK218.out 0).trans rfl; have hcz42_1 : w37.cell? ⟨gb218, 1, none⟩ = some (.slice A0_1 l0_1.length c0_1) := (z23_ BK218.out 1).trans rfl; have hfz42_0 := blk_frozen BK218.out 0; have hfz42_1 := blk_frozen BK218.out 1) | ((with_reducible refine gate_callee (f := 11) rfl ?_); refine goesL_ (some 51) rfl rfl Tryd.func11 (by kernel_rfl) rfl #[.agg #[.int .i64 x219000_21, .slice A0_1 l0_1.length c0_1]] rfl (by (try simp only [List.map_toArray, List.map_cons, List.map_nil]); first | done | rfl | (simp only [List.length_drop, List.length_take]; rfl)) ?_; (with_reducible refine (gap_Least.calls x219000_21 _ _ l0_1 t227 t228 t229 t230 t233 _ ?side1 ?side2 A31.out).mono ?_); (case side1 => exact Kd.C_below HR0_1.out (by repeat (first | (with_reducible first | exact HB.out | apply z6_ | apply z4_ | apply z5_ | refine z3_ ?_ GE213.out | refine z3_ ?_ GE218.out | refine z3_ ?_ GE226.out) | exact HB.out))); (case side2 => exact HC0_1.out); rintro e w43 ⟨v231, rfl, ho0, hb⟩; refine ⟨_, rfl, ?_⟩; have n0_ := Aside0.mk (Kd.R_elder' (by (with_reducible repeat (first | apply z9_ | apply z7_ | apply z8_)); exact (Kd.R_mono (z12_ (p := ⟨gb226, 2, none⟩) (z12_ (p := ⟨gb226, 1, none⟩) (z12_ (p := ⟨gb226, 0, none⟩) (Kd.R_types HO224.out BK226.out (by decide)) (fun _ hk => hk.2) (.bool t220)) (fun _ hk => hk.2) (.int .i64 t221)) (fun _ hk => hk.2) (.slice Ao41 t222.length co41)) (fun _ h_ => h_.1))) (Kd.R_base ho0) hb); have n1_ := Aside0.mk (Kd.R_lower (Kd.R_new' ho0 (Kd.R_lt (by (with_reducible repeat (first | apply z9_ | apply z7_ | apply z8_)); exact (Kd.R_mono (z12_ (p := ⟨gb226, 2, none⟩) (z12_ (p := ⟨gb226, 1, none⟩) (z12_ (p := ⟨gb226, 0, none⟩) (Kd.R_types HO224.out BK226.out (by decide)) (fun _ hk => hk.2) (.bool t220)) (fun _ hk => hk.2) (.int .i64 t221)) (fun _ hk => hk.2) (.slice Ao41 t222.length co41)) (fun _ h_ => h_.1))))) (below_size (by repeat (first | (with_reducible first | exact HB.out | apply z6_ | apply z4_ | apply z5_ | refine z3_ ?_ GE213.out | refine z3_ ?_ GE218.out | refine z3_ ?_ GE226.out) | exact HB.out)))); have n2_ := Aside0.mk (z20_ (g := gb213) (o := .cells #[.int .i64 a0_0, .slice A0_1 l0_1.length c0_1] 24 (0, 0)) (by (with_reducible repeat (first | refine z0_ ?_ _ | refine z1_ ?_ | refine z2_ ?_ _)); refine blk_far ?_ NB213_226.out _; (with_reducible repeat (first | refine z0_ ?_ _ | refine z1_ ?_ | refine z2_ ?_ _)); refine blk_far ?_ NB213_226.out _; (with_reducible repeat (first | refine z0_ ?_ _ | refine z1_ ?_ | refine z2_ ?_ _)); refine blk_far ?_ NB213_226.out _; (with_reducible repeat (first | refine z0_ ?_ _ | refine z1_ ?_ | refine z2_ ?_ _)); exact BK213.out) hb); have n3_ := Aside0.mk (z20_ (g := gb218) (o := .cells #[.int .i64 x219000_21, .slice A0_1 l0_1.length c0_1] 24 (0, 0)) (by (with_reducible repeat (first | refine z0_ ?_ _ | refine z1_ ?_ | refine z2_ ?_ _)); refine blk_far ?_ NB218_226.out _; (with_reducible repeat (first | refine z0_ ?_ _ | refine z1_ ?_ | refine z2_ ?_ _)); refine blk_far ?_ NB218_226.out _; (with_reducible repeat (first | refine z0_ ?_ _ | refine z1_ ?_ | refine z2_ ?_ _)); refine blk_far ?_ NB218_226.out _; (with_reducible repeat (first | refine z0_ ?_ _ | refine z1_ ?_ | refine z2_ ?_ _)); exact BK218.out) hb); have n4_ := Aside0.mk (z20_ (g := gb226) (o := .cells #[.bool t220, .int .i64 t221, .slice Ao41 t222.length co41] 30 (0, 0)) (by (with_reducible repeat (first | refine z0_ ?_ _ | refine z1_ ?_ | refine z2_ ?_ _)); refine blk_put (cs := #[.bool t220, .int .i64 t221, .slice none 0 0]) ?_ 2 _ rfl; (with_reducible repeat (first | refine z0_ ?_ _ | refine z1_ ?_ | refine z2_ ?_ _)); refine blk_put (cs := #[.bool t220, .int .i64 0, .slice none 0 0]) ?_ 1 _ rfl; (with_reducible repeat (first | refine z0_ ?_ _ | refine z1_ ?_ | refine z2_ ?_ _)); refine blk_put (cs := #[.bool false, .int .i64 0, .slice none 0 0]) ?_ 0 _ rfl; (with_reducible repeat (first | refine z0_ ?_ _ | refine z1_ ?_ | refine z2_ ?_ _)); exact BK226.out) hb); have n5_ := Aside0.mk (z24_ (by repeat (first | (with_reducible first | exact HB.out | apply z6_ | apply z4_ | apply z5_ | refine z3_ ?_ GE213.out | refine z3_ ?_ GE218.out | refine z3_ ?_ GE226.out) | exact HB.out)) hb); clear HO224; clear BK213; clear BK218; clear BK226; clear HB; have HO224 := n0_; have HO232 := n1_; have BK213 := n2_; have BK218 := n3_; have BK226 := n4_; have HB := n5_; clear n0_ n1_ n2_ n3_ n4_ n5_; (try clear hb); (try clear hb2); (try clear hk); (try clear hi); (try clear ho0)) | ((with_reducible refine gate_dst (N := 10) rfl ?_); refine box_event ?hg (N := 10) ?hd (cs := #[.bool false, .int .i64 0, .slice none 0 0]) (t := 30) ?hr ?_; (case hd => rfl); (case hg => rfl); (case hr => first | (go_simp; done) | (go_simp; rfl)); intro gb234 hg w44 hbox hb; have n0_ := Aside0.mk (z10_ (by (with_reducible repeat (first | apply z9_ | apply z7_ | apply z8_)); exact HO224.out) hb); have n1_ := Aside0.mk (z10_ (by (with_reducible repeat (first | apply z9_ | apply z7_ | apply z8_)); exact HO232.out) hb); have n2_ := Aside0.mk (z20_ (g := gb213) (o := .cells #[.int .i64 a0_0, .slice A0_1 l0_1.length c0_1] 24 (0, 0)) (by (with_reducible repeat (first | refine z0_ ?_ _ | refine z1_ ?_ | refine z2_ ?_ _)); exact BK213.out) hb); have n3_ := Aside0.mk (z20_ (g := gb218) (o := .cells #[.int .i64 x219000_21, .slice A0_1 l0_1.length c0_1] 24 (0, 0)) (by (with_reducible repeat (first | refine z0_ ?_ _ | refine z1_ ?_ | refine z2_ ?_ _)); exact BK218.out) hb); have n4_ := Aside0.mk (z20_ (g := gb226) (o := .cells #[.bool t220, .int .i64 t221, .slice Ao41 t222.length co41] 30 (0, 0)) (by (with_reducible repeat (first | refine z0_ ?_ _ | refine z1_ ?_ | refine z2_ ?_ _)); exact BK226.out) hb); have n5_ := Aside0.mk (z24_ (by repeat (first | (with_reducible first | exact HB.out | apply z6_ | apply z4_ | apply z5_ | refine z3_ ?_ GE213.out | refine z3_ ?_ GE218.out | refine z3_ ?_ GE226.out) | exact HB.out)) hb); have n6_ := Aside0.mk (hbox); have n7_ := Aside0.mk ((by rw [hg]; exact (below_size (by repeat (first | (with_reducible first | exact HB.out | apply z6_ | apply z4_ | apply z5_ | refine z3_ ?_ GE213.out | refine z3_ ?_ GE218.out | refine z3_ ?_ GE226.out) | exact HB.out))) : w.heap.size ≤ gb234)); have n8_ := Aside0.mk ((by rw [hg]; exact (below_size (by repeat (first | (with_reducible first | exact HB.out | apply z6_ | apply z4_ | apply z5_ | refine z3_ ?_ GE213.out | refine z3_ ?_ GE218.out | refine z3_ ?_ GE226.out) | exact HB.out))) : w.heap.size ≤ gb234)); have n9_ := Aside0.mk ((by rw [hg]; exact Nat.ne_of_lt (blk_lt (g := gb213) (o := .cells #[.int .i64 a0_0, .slice A0_1 l0_1.length c0_1] 24 (0, 0)) (by (with_reducible repeat (first | refine z0_ ?_ _ | refine z1_ ?_ | refine z2_ ?_ _)); exact BK213.out)) : gb213 ≠ gb234)); have n10_ := Aside0.mk ((by rw [hg]; exact Nat.ne_of_gt (blk_lt (g := gb213) (o := .cells #[.int .i64 a0_0, .slice A0_1 l0_1.length c0_1] 24 (0, 0)) (by (with_reducible repeat (first | refine z0_ ?_ _ | refine z1_ ?_ | refine z2_ ?_ _)); exact BK213.out)) : gb234 ≠ gb213)); have n11_ := Aside0.mk ((by rw [hg]; exact Nat.ne_of_lt (blk_lt (g := gb218) (o := .cells #[.int .i64 x219000_21, .slice A0_1 l0_1.length c0_1] 24 (0, 0)) (by (with_reducible repeat (first | refine z0_ ?_ _ | refine z1_ ?_ | refine z2_ ?_ _)); exact BK218.out)) : gb218 ≠ gb234)); have n12_ := Aside0.mk ((by rw [hg]; exact Nat.ne_of_gt (blk_lt (g := gb218) (o := .cells #[.int .i64 x219000_21, .slice A0_1 l0_1.length c0_1] 24 (0, 0)) (by (with_reducible repeat (first | refine z0_ ?_ _ | refine z1_ ?_ | refine z2_ ?_ _)); exact BK218.out)) : gb234 ≠ gb218)); have n13_ := Aside0.mk ((by rw [hg]; exact Nat.ne_of_lt (blk_lt (g := gb226) (o := .cells #[.bool t220, .int .i64 t221, .slice Ao41 t222.length co41] 30 (0, 0)) (by (with_reducible repeat (first | refine z0_ ?_ _ | refine z1_ ?_ | refine z2_ ?_ _)); exact BK226.out)) : gb226 ≠ gb234)); have n14_ := Aside0.mk ((by rw [hg]; exact Nat.ne_of_gt (blk_lt (g := gb226) (o := .cells #[.bool t220, .int .i64 t221, .slice Ao41 t222.length co41] 30 (0, 0)) (by (with_reducible repeat (first | refine z0_ ?_ _ | refine z1_ ?_ | refine z2_ ?_ _)); exact BK226.out)) : gb234 ≠ gb226)); clear HO224; clear HO232; clear BK213; clear BK218; clear BK226; clear HB; have HO224 := n0_; have HO232 := n1_; have BK213 := n2_; have BK218 := n3_; have BK226 := n4_; have HB := n5_; have BK234 := n6_; have GW234 := n7_; have GE234 := n8_; have NB213_234 := n9_; have NB234_213 := n10_; have NB218_234 := n11_; have NB234_218 := n12_; have NB226_234 := n13_; have NB234_226 := n14_; clear n0_ n1_ n2_ n3_ n4_ n5_ n6_ n7_ n8_ n9_ n10_ n11_ n12_ n13_ n14_; clear hb hbox hg; have hnb45 := NB234_213.out; have hnc45 := NB213_234.out; have hnb46 := NB234_218.out; have hnc46 := NB218_234.out; have hnb47 := NB234_226.out; have hnc47 := NB226_234.out; have hcz48_0 : w44.cell? ⟨gb234, 0, none⟩ = some (.bool false) := (z23_ BK234.out 0).trans rfl; have hcz48_1 : w44.cell? ⟨gb234, 1, none⟩ = some (.int .i64 0) := (z23_ BK234.out 1).trans rfl; have hcz48_2 : w44.cell? ⟨gb234, 2, none⟩ = some (.slice none 0 0) := (z23_ BK234.out 2).trans rfl; have hfz48_0 := blk_frozen BK234.out 0; have hfz48_1 := blk_frozen BK234.out 1; have hfz48_2 := blk_frozen BK234.out 2; obtain ⟨Ao49, co49, eo49⟩ := Kd.R_slice HO232.out; subst eo49))
       (try simp only [Act.put, z15_, z16_, z17_])
       go_cut [69] (fun v69 wc => ∃ (kq : Nat) (x69_32 : Bool), v69 = .bool x69_32 ∧ Aside0 (pendulumlaw21_GapBursts.j2 kq t219 x69_32 a0_0 l0_1 = some r) ∧ Aside0 (kq ≤ kj21) ∧ Aside0 (Kd.R (Kd.int .i64) 3 wc w.heap.size (fun k_ => some k_ ≠ ((.slice Ao49 t230.length co49) : Value).ownBlock) (.slice Ao41 t222.length co41) t222) ∧ Aside0 (Kd.R (Kd.int .i64) 3 wc w.heap.size (fun k_ => some k_ ≠ ((.slice Ao41 t222.length co41) : Value).ownBlock) (.slice Ao49 t230.length co49) t230) ∧ Aside0 (wc.heap[gb213]? = some (.cells #[.int .i64 a0_0, (.slice A0_1 l0_1.length c0_1)] 24 (0, 0))) ∧ Aside0 (wc.heap[gb218]? = some (.cells #[.int .i64 x219000_21, (.slice A0_1 l0_1.length c0_1)] 24 (0, 0))) ∧ Aside0 (wc.heap[gb226]? = some (.cells #[.bool t220, .int .i64 t221, (.slice Ao41 t222.length co41)] 30 (0, 0))) ∧ Aside0 (wc.heap[gb234]? = some (.cells #[.bool t228, .int .i64 t229, (.slice Ao49 t230.length co49)] 30 (0, 0))) ∧ Aside0 (Below w.heap.size w wc))
       case first => as_aux_lemma =>
        have H := HC33.out
        clear HC33
        by_cases c50 : t233 = 0
        ·rw [if_pos c50] at H
         have c50b0 : (t233 == 0) = true := beq_iff_eq.mpr c50
         have c50b1 : (t233 != 0) = false := bne_eq_false_iff_eq.mpr c50
         clear c50
         (first | rw [c50b0] | (simp only [i64_w, i32_w]; rw [c50b0]) | skip)
         have H' := Aside0.mk H
         clear H
         go_wp2
         go_meet
         case rel => exact ⟨_, (decide (t227 < t219)), (by first | rfl | (simp; done) | (simp [*]; done)), H', ⟨by have := HJ2.out; have := HJ21.out; first | omega | exact Nat.le_refl _⟩, ⟨by (with_reducible repeat (first | apply z9_ | apply z7_ | apply z8_)); exact Kd.R_mono (z12_ (p := ⟨gb234, 2, none⟩) (z12_ (p := ⟨gb234, 1, none⟩) (z12_ (p := ⟨gb234, 0, none⟩) (Kd.R_types HO224.out BK234.out (by decide)) (fun _ hk => hk.2) (.bool t228)) (fun _ hk => hk.2) (.int .i64 t229)) (fun _ hk => hk.2) (.slice Ao49 t230.length co49)) (fun _ hk => hk.1.2)⟩, ⟨by (with_reducible repeat (first | apply z9_ | apply z7_ | apply z8_)); exact Kd.R_mono (z12_ (p := ⟨gb234, 2, none⟩) (z12_ (p := ⟨gb234, 1, none⟩) (z12_ (p := ⟨gb234, 0, none⟩) (Kd.R_types HO232.out BK234.out (by decide)) (fun _ hk => hk.2) (.bool t228)) (fun _ hk => hk.2) (.int .i64 t229)) (fun _ hk => hk.2) (.slice Ao49 t230.length co49)) (fun _ hk => hk.1.2)⟩, ⟨by (with_reducible repeat (first | refine z0_ ?_ _ | refine z1_ ?_ | refine z2_ ?_ _)); refine blk_far ?_ NB213_234.out _; (with_reducible repeat (first | refine z0_ ?_ _ | refine z1_ ?_ | refine z2_ ?_ _)); refine blk_far ?_ NB213_234.out _; (with_reducible repeat (first | refine z0_ ?_ _ | refine z1_ ?_ | refine z2_ ?_ _)); refine blk_far ?_ NB213_234.out _; (with_reducible repeat (first | refine z0_ ?_ _ | refine z1_ ?_ | refine z2_ ?_ _)); exact BK213.out⟩, ⟨by (with_reducible repeat (first | refine z0_ ?_ _ | refine z1_ ?_ | refine z2_ ?_ _)); refine blk_far ?_ NB218_234.out _; (with_reducible repeat (first | refine z0_ ?_ _ | refine z1_ ?_ | refine z2_ ?_ _)); refine blk_far ?_ NB218_234.out _; (with_reducible repeat (first | refine z0_ ?_ _ | refine z1_ ?_ | refine z2_ ?_ _)); refine blk_far ?_ NB218_234.out _; (with_reducible repeat (first | refine z0_ ?_ _ | refine z1_ ?_ | refine z2_ ?_ _)); exact BK218.out⟩, ⟨by (with_reducible repeat (first | refine z0_ ?_ _ | refine z1_ ?_ | refine z2_ ?_ _)); refine blk_far ?_ NB226_234.out _; (with_reducible repeat (first | refine z0_ ?_ _ | refine z1_ ?_ | refine z2_ ?_ _)); refine blk_far ?_ NB226_234.out _; (with_reducible repeat (first | refine z0_ ?_ _ | refine z1_ ?_ | refine z2_ ?_ _)); refine blk_far ?_ NB226_234.out _; (with_reducible repeat (first | refine z0_ ?_ _ | refine z1_ ?_ | refine z2_ ?_ _)); exact BK226.out⟩, ⟨by (with_reducible repeat (first | refine z0_ ?_ _ | refine z1_ ?_ | refine z2_ ?_ _)); refine blk_put (cs := #[.bool t228, .int .i64 t229, .slice none 0 0]) ?_ 2 _ rfl; (with_reducible repeat (first | refine z0_ ?_ _ | refine z1_ ?_ | refine z2_ ?_ _)); refine blk_put (cs := #[.bool t228, .int .i64 0, .slice none 0 0]) ?_ 1 _ rfl; (with_reducible repeat (first | refine z0_ ?_ _ | refine z1_ ?_ | refine z2_ ?_ _)); refine blk_put (cs := #[.bool false, .int .i64 0, .slice none 0 0]) ?_ 0 _ rfl; (with_reducible repeat (first | refine z0_ ?_ _ | refine z1_ ?_ | refine z2_ ?_ _)); exact BK234.out⟩, ⟨by repeat (first | (with_reducible first | exact HB.out | apply z6_ | apply z4_ | apply z5_ | refine z3_ ?_ GE213.out | refine z3_ ?_ GE218.out | refine z3_ ?_ GE226.out | refine z3_ ?_ GE234.out) | exact HB.out)⟩⟩
        ·rw [if_neg c50] at H
         have c50b0 : (t233 == 0) = false := beq_eq_false_iff_ne.mpr c50
         have c50b1 : (t233 != 0) = true := bne_iff_ne.mpr c50
         (first | rw [c50b0] | (simp only [i64_w, i32_w]; rw [c50b0]) | skip)
         have H' := Aside0.mk H
         clear H
         go_wp2
         go_meet
         case rel => exact ⟨_, (false), (by first | rfl | (simp; done) | (simp [*]; done)), H', ⟨by have := HJ2.out; have := HJ21.out; first | omega | exact Nat.le_refl _⟩, ⟨by (with_reducible repeat (first | apply z9_ | apply z7_ | apply z8_)); exact Kd.R_mono (z12_ (p := ⟨gb234, 2, none⟩) (z12_ (p := ⟨gb234, 1, none⟩) (z12_ (p := ⟨gb234, 0, none⟩) (Kd.R_types HO224.out BK234.out (by decide)) (fun _ hk => hk.2) (.bool t228)) (fun _ hk => hk.2) (.int .i64 t229)) (fun _ hk => hk.2) (.slice Ao49 t230.length co49)) (fun _ hk => hk.1.2)⟩, ⟨by (with_reducible repeat (first | apply z9_ | apply z7_ | apply z8_)); exact Kd.R_mono (z12_ (p := ⟨gb234, 2, none⟩) (z12_ (p := ⟨gb234, 1, none⟩) (z12_ (p := ⟨gb234, 0, none⟩) (Kd.R_types HO232.out BK234.out (by decide)) (fun _ hk => hk.2) (.bool t228)) (fun _ hk => hk.2) (.int .i64 t229)) (fun _ hk => hk.2) (.slice Ao49 t230.length co49)) (fun _ hk => hk.1.2)⟩, ⟨by (with_reducible repeat (first | refine z0_ ?_ _ | refine z1_ ?_ | refine z2_ ?_ _)); refine blk_far ?_ NB213_234.out _; (with_reducible repeat (first | refine z0_ ?_ _ | refine z1_ ?_ | refine z2_ ?_ _)); refine blk_far ?_ NB213_234.out _; (with_reducible repeat (first | refine z0_ ?_ _ | refine z1_ ?_ | refine z2_ ?_ _)); refine blk_far ?_ NB213_234.out _; (with_reducible repeat (first | refine z0_ ?_ _ | refine z1_ ?_ | refine z2_ ?_ _)); exact BK213.out⟩, ⟨by (with_reducible repeat (first | refine z0_ ?_ _ | refine z1_ ?_ | refine z2_ ?_ _)); refine blk_far ?_ NB218_234.out _; (with_reducible repeat (first | refine z0_ ?_ _ | refine z1_ ?_ | refine z2_ ?_ _)); refine blk_far ?_ NB218_234.out _; (with_reducible repeat (first | refine z0_ ?_ _ | refine z1_ ?_ | refine z2_ ?_ _)); refine blk_far ?_ NB218_234.out _; (with_reducible repeat (first | refine z0_ ?_ _ | refine z1_ ?_ | refine z2_ ?_ _)); exact BK218.out⟩, ⟨by (with_reducible repeat (first | refine z0_ ?_ _ | refine z1_ ?_ | refine z2_ ?_ _)); refine blk_far ?_ NB226_234.out _; (with_reducible repeat (first | refine z0_ ?_ _ | refine z1_ ?_ | refine z2_ ?_ _)); refine blk_far ?_ NB226_234.out _; (with_reducible repeat (first | refine z0_ ?_ _ | refine z1_ ?_ | refine z2_ ?_ _)); refine blk_far ?_ NB226_234.out _; (with_reducible repeat (first | refine z0_ ?_ _ | refine z1_ ?_ | refine z2_ ?_ _)); exact BK226.out⟩, ⟨by (with_reducible repeat (first | refine z0_ ?_ _ | refine z1_ ?_ | refine z2_ ?_ _)); refine blk_put (cs := #[.bool t228, .int .i64 t229, .slice none 0 0]) ?_ 2 _ rfl; (with_reducible repeat (first | refine z0_ ?_ _ | refine z1_ ?_ | refine z2_ ?_ _)); refine blk_put (cs := #[.bool t228, .int .i64 0, .slice none 0 0]) ?_ 1 _ rfl; (with_reducible repeat (first | refine z0_ ?_ _ | refine z1_ ?_ | refine z2_ ?_ _)); refine blk_put (cs := #[.bool false, .int .i64 0, .slice none 0 0]) ?_ 0 _ rfl; (with_reducible repeat (first | refine z0_ ?_ _ | refine z1_ ?_ | refine z2_ ?_ _)); exact BK234.out⟩, ⟨by repeat (first | (with_reducible first | exact HB.out | apply z6_ | apply z4_ | apply z5_ | refine z3_ ?_ GE213.out | refine z3_ ?_ GE218.out | refine z3_ ?_ GE226.out | refine z3_ ?_ GE234.out) | exact HB.out)⟩⟩
       case rest => as_aux_lemma =>
        clear HC33
        try clear c1
        try clear c2
        try clear p2
        try clear c3
        try clear c4
        try clear c5
        try clear c6
        try clear p6
        try clear c7
        try clear c8
        try clear c11
        try clear c19
        try clear c25
        try clear c27
        try clear c27b0
        try clear c28
        try clear c32
        try clear c32b0
        try clear c32b1
        try clear c34
        try clear c38
        try clear c39
        try clear c45
        try clear c46
        try clear c47
        try clear c50
        try clear c50b0
        try clear c50b1
        try clear hcz11_0
        try clear hcz11_1
        try clear hcz13_0
        try clear hcz13_1
        try clear hcz16_0
        try clear hcz16_1
        try clear hcz23_0
        try clear hcz23_1
        try clear hcz26_0
        try clear hcz26_1
        try clear hcz29_0
        try clear hcz29_1
        try clear hcz35_0
        try clear hcz35_1
        try clear hcz40_0
        try clear hcz40_1
        try clear hcz40_2
        try clear hcz42_0
        try clear hcz42_1
        try clear hcz48_0
        try clear hcz48_1
        try clear hcz48_2
        try clear hfz11_0
        try clear hfz11_1
        try clear hfz13_0
        try clear hfz13_1
        try clear hfz16_0
        try clear hfz16_1
        try clear hfz23_0
        try clear hfz23_1
        try clear hfz26_0
        try clear hfz26_1
        try clear hfz29_0
        try clear hfz29_1
        try clear hfz35_0
        try clear hfz35_1
        try clear hfz40_0
        try clear hfz40_1
        try clear hfz40_2
        try clear hfz42_0
        try clear hfz42_1
        try clear hfz48_0
        try clear hfz48_1
        try clear hfz48_2
        try clear p2
        try clear p6
        obtain ⟨kq, x69_32, rfl, HA, HJ32, HO_227002, HO_235002, BK213, BK218, BK226, BK234, HB⟩ := hcut
        cases kq with
        | zero => exact absurd HA.out (by simp [pendulumlaw21_GapBursts.j2])
        | succ kj32 =>
         have H := HA.out
         clear HA
         simp only [pendulumlaw21_GapBursts.j2] at H
         by_cases c51 : x69_32 = true
         ·subst c51
          have H1 : (some false) = some r := by rw [if_pos rfl] at H; exact H
          clear H
          have H := H1
          clear H1
          exact absurd ((Option.some.inj H).trans hr) (by decide)
         ·replace c51 := Bool.eq_false_iff.mpr c51
          subst c51
          have H1 : (pendulumlaw21_GapBursts.l0 kj32 t219 0 0 a0_0 l0_1) = some r := by rw [if_neg (show ¬ (false = true) by decide)] at H; exact H
          clear H
          have H := H1
          clear H1
          have H' := Aside0.mk H
          clear H
          go_wp2
          go_loopg [12, 13] kj32 (fun kq v12 v13 w' => ∃ (x12_4 : Int) (x13_4 : Int), v12 = .int .i64 x12_4 ∧ v13 = .int .i64 x13_4 ∧ Aside0 (pendulumlaw21_GapBursts.l0 kq t219 x12_4 x13_4 a0_0 l0_1 = some r) ∧ Aside0 (kq ≤ kj32) ∧ Aside0 (Kd.R (Kd.int .i64) 3 w' w.heap.size (fun k_ => some k_ ≠ ((.slice Ao49 t230.length co49) : Value).ownBlock) (.slice Ao41 t222.length co41) t222) ∧ Aside0 (Kd.R (Kd.int .i64) 3 w' w.heap.size (fun k_ => some k_ ≠ ((.slice Ao41 t222.length co41) : Value).ownBlock) (.slice Ao49 t230.length co49) t230) ∧ Aside0 (w'.heap[gb213]? = some (.cells #[.int .i64 a0_0, (.slice A0_1 l0_1.length c0_1)] 24 (0, 0))) ∧ Aside0 (w'.heap[gb218]? = some (.cells #[.int .i64 x219000_21, (.slice A0_1 l0_1.length c0_1)] 24 (0, 0))) ∧ Aside0 (w'.heap[gb226]? = some (.cells #[.bool t220, .int .i64 t221, (.slice Ao41 t222.length co41)] 30 (0, 0))) ∧ Aside0 (w'.heap[gb234]? = some (.cells #[.bool t228, .int .i64 t229, (.slice Ao49 t230.length co49)] 30 (0, 0))) ∧ Aside0 (Below w.heap.size w w'))
          case atStart => exact ⟨(0), (0), (by first | rfl | (simp; done) | (simp [*]; done)), (by first | rfl | (simp; done) | (simp [*]; done)), H', ⟨Nat.le_refl _⟩, ⟨by (with_reducible repeat (first | apply z9_ | apply z7_ | apply z8_)); exact HO_227002.out⟩, ⟨by (with_reducible repeat (first | apply z9_ | apply z7_ | apply z8_)); exact HO_235002.out⟩, ⟨by (with_reducible repeat (first | refine z0_ ?_ _ | refine z1_ ?_ | refine z2_ ?_ _)); exact BK213.out⟩, ⟨by (with_reducible repeat (first | refine z0_ ?_ _ | refine z1_ ?_ | refine z2_ ?_ _)); exact BK218.out⟩, ⟨by (with_reducible repeat (first | refine z0_ ?_ _ | refine z1_ ?_ | refine z2_ ?_ _)); exact BK226.out⟩, ⟨by (with_reducible repeat (first | refine z0_ ?_ _ | refine z1_ ?_ | refine z2_ ?_ _)); exact BK234.out⟩, ⟨by repeat (first | (with_reducible first | exact HB.out | apply z6_ | apply z4_ | apply z5_ | refine z3_ ?_ GE213.out | refine z3_ ?_ GE218.out | refine z3_ ?_ GE226.out | refine z3_ ?_ GE234.out) | exact HB.out)⟩⟩
          case round => as_aux_lemma =>
           clear H'
           try clear c1
           try clear c2
           try clear p2
           try clear c3
           try clear c4
           try clear c5
           try clear c6
           try clear p6
           try clear c7
           try clear c8
           try clear c11
           try clear c19
           try clear c25
           try clear c27
           try clear c27b0
           try clear c28
           try clear c32
           try clear c32b0
           try clear c32b1
           try clear c34
           try clear c38
           try clear c39
           try clear c45
           try clear c46
           try clear c47
           try clear c50
           try clear c50b0
           try clear c50b1
           try clear c51
           try clear hcz11_0
           try clear hcz11_1
           try clear hcz13_0
           try clear hcz13_1
           try clear hcz16_0
           try clear hcz16_1
           try clear hcz23_0
           try clear hcz23_1
           try clear hcz26_0
           try clear hcz26_1
           try clear hcz29_0
           try clear hcz29_1
           try clear hcz35_0
           try clear hcz35_1
           try clear hcz40_0
           try clear hcz40_1
           try clear hcz40_2
           try clear hcz42_0
           try clear hcz42_1
           try clear hcz48_0
           try clear hcz48_1
           try clear hcz48_2
           try clear hfz11_0
           try clear hfz11_1
           try clear hfz13_0
           try clear hfz13_1
           try clear hfz16_0
           try clear hfz16_1
           try clear hfz23_0
           try clear hfz23_1
           try clear hfz26_0
           try clear hfz26_1
           try clear hfz29_0
           try clear hfz29_1
           try clear hfz35_0
           try clear hfz35_1
           try clear hfz40_0
           try clear hfz40_1
           try clear hfz40_2
           try clear hfz42_0
           try clear hfz42_1
           try clear hfz48_0
           try clear hfz48_1
           try clear hfz48_2
           try clear p2
           try clear p6
           obtain ⟨x12_4, x13_4, rfl, rfl, HA, HK4, HO_227002, HO_235002, BK213, BK218, BK226, BK234, HB⟩ := hrel
           cases gk with
           | zero => exact absurd HA.out (by simp [pendulumlaw21_GapBursts.l0])
           | succ k4 =>
            have H := HA.out
            clear HA
            simp only [pendulumlaw21_GapBursts.l0] at H
            by_cases c52 : x13_4 < (l0_1.length : Int)
            ·rw [if_pos c52] at H
             have c52b0 : decide (x13_4 < (l0_1.length : Int)) = true := decide_eq_true c52
             clear c52
             by_cases c53 : 0 ≤ x13_4
             ·rw [if_pos c53] at H
              have c53b0 : decide (0 ≤ x13_4) = true := decide_eq_true c53
              clear c53
              by_cases c54 : 0 ≤ x12_4
              ·rw [if_pos c54] at H
               have c54b0 : decide (0 ≤ x12_4) = true := decide_eq_true c54
               clear c54
               by_cases c55 : x12_4 < (l0_1.length : Int)
               ·rw [if_pos c55] at H
                have c55b0 : decide (x12_4 < (l0_1.length : Int)) = true := decide_eq_true c55
                clear c55
                by_cases c56 : ((rd_T39 l0_1 x13_4).f10) > ((rd_T39 l0_1 x12_4).f10)
                ·rw [if_pos c56] at H
                 have c56b0 : decide (((rd_T39 l0_1 x12_4).f10) < ((rd_T39 l0_1 x13_4).f10)) = true := decide_eq_true c56
                 clear c56
                 have H' := Aside0.mk H
                 clear H
                 have hnb57 := NB213_218.out
                 have hnc57 := NB218_213.out
                 have hnb58 := NB213_226.out
                 have hnc58 := NB226_213.out
                 have hnb59 := NB213_234.out
                 have hnc59 := NB234_213.out
                 have hcz60_0 : wr.cell? ⟨gb213, 0, none⟩ = some (.int .i64 a0_0) := (z23_ BK213.out 0).trans rfl
                 have hcz60_1 : wr.cell? ⟨gb213, 1, none⟩ = some (.slice A0_1 l0_1.length c0_1) := (z23_ BK213.out 1).trans rfl
                 have hfz60_0 := blk_frozen BK213.out 0
                 have hfz60_1 := blk_frozen BK213.out 1
                 try go_wp2
                 have n0_ := Aside0.mk (z8_ HO_227002.out)
                 have n1_ := Aside0.mk (z8_ HO_235002.out)
                 have n2_ := Aside0.mk (z1_ BK213.out)
                 have n3_ := Aside0.mk (z1_ BK218.out)
                 have n4_ := Aside0.mk (z1_ BK226.out)
                 have n5_ := Aside0.mk (z1_ BK234.out)
                 have n6_ := Aside0.mk (z5_ HB.out)
                 clear HO_227002
                 clear HO_235002
                 clear BK213
                 clear BK218
                 clear BK226
                 clear BK234
                 clear HB
                 have HO_227002 := n0_
                 have HO_235002 := n1_
                 have BK213 := n2_
                 have BK218 := n3_
                 have BK226 := n4_
                 have BK234 := n5_
                 have HB := n6_
                 clear n0_ n1_ n2_ n3_ n4_ n5_ n6_
                 have p235 : 0 ≤ (x13_4 : Int) := of_decide_eq_true (by first | (with_reducible assumption) | assumption)
                 have q235 : x13_4 < (l0_1.length : Int) := of_decide_eq_true (by first | (with_reducible assumption) | assumption)
                 obtain ⟨ad235, e235, hx235_0, hx235_1, hx235_2, hx235_3, hx235_4, hx235_5, hx235_6, hx235_7, hx235_8, hx235_9, hx235_10⟩ := at_T39 HR0_1.out x13_4 p235 q235
                 have hw235_10 := hx235_10
                 have hw235_9 := hx235_9
                 have hw235_8 := hx235_8
                 have hw235_7 := hx235_7
                 have hw235_6 := hx235_6
                 have hw235_5 := hx235_5
                 have hw235_4 := hx235_4
                 have hw235_3 := hx235_3
                 have hw235_2 := hx235_2
                 have hw235_1 := hx235_1
                 have hw235_0 := hx235_0
                 cases e235
                 replace hx235_0 := (HB.out.cell (World.block_lt_of_cell? w _ hx235_0)).trans hx235_0
                 replace hx235_1 := (HB.out.cell (World.block_lt_of_cell? w _ hx235_1)).trans hx235_1
                 replace hx235_2 := (HB.out.cell (World.block_lt_of_cell? w _ hx235_2)).trans hx235_2
                 replace hx235_3 := (HB.out.cell (World.block_lt_of_cell? w _ hx235_3)).trans hx235_3
                 replace hx235_4 := (HB.out.cell (World.block_lt_of_cell? w _ hx235_4)).trans hx235_4
                 replace hx235_5 := (HB.out.cell (World.block_lt_of_cell? w _ hx235_5)).trans hx235_5
                 replace hx235_6 := (HB.out.cell (World.block_lt_of_cell? w _ hx235_6)).trans hx235_6
                 replace hx235_7 := (HB.out.cell (World.block_lt_of_cell? w _ hx235_7)).trans hx235_7
                 replace hx235_8 := (HB.out.cell (World.block_lt_of_cell? w _ hx235_8)).trans hx235_8
                 replace hx235_9 := (HB.out.cell (World.block_lt_of_cell? w _ hx235_9)).trans hx235_9
                 replace hx235_10 := (HB.out.cell (World.block_lt_of_cell? w _ hx235_10)).trans hx235_10
                 replace p235 := eq_true p235
                 replace q235 := eq_true q235
                 have p236 : 0 ≤ (x12_4 : Int) := of_decide_eq_true (by first | (with_reducible assumption) | assumption)
                 have q236 : x12_4 < (l0_1.length : Int) := of_decide_eq_true (by first | (with_reducible assumption) | assumption)
                 obtain ⟨ad236, e236, hx236_0, hx236_1, hx236_2, hx236_3, hx236_4, hx236_5, hx236_6, hx236_7, hx236_8, hx236_9, hx236_10⟩ := at_T39 HR0_1.out x12_4 p236 q236
                 have hw236_10 := hx236_10
                 have hw236_9 := hx236_9
                 have hw236_8 := hx236_8
                 have hw236_7 := hx236_7
                 have hw236_6 := hx236_6
                 have hw236_5 := hx236_5
                 have hw236_4 := hx236_4
                 have hw236_3 := hx236_3
                 have hw236_2 := hx236_2
                 have hw236_1 := hx236_1
                 have hw236_0 := hx236_0
                 obtain rfl : ad235 = ad236 := (by injection e236)
                 replace hx236_0 := (HB.out.cell (World.block_lt_of_cell? w _ hx236_0)).trans hx236_0
                 replace hx236_1 := (HB.out.cell (World.block_lt_of_cell? w _ hx236_1)).trans hx236_1
                 replace hx236_2 := (HB.out.cell (World.block_lt_of_cell? w _ hx236_2)).trans hx236_2
                 replace hx236_3 := (HB.out.cell (World.block_lt_of_cell? w _ hx236_3)).trans hx236_3
                 replace hx236_4 := (HB.out.cell (World.block_lt_of_cell? w _ hx236_4)).trans hx236_4
                 replace hx236_5 := (HB.out.cell (World.block_lt_of_cell? w _ hx236_5)).trans hx236_5
                 replace hx236_6 := (HB.out.cell (World.block_lt_of_cell? w _ hx236_6)).trans hx236_6
                 replace hx236_7 := (HB.out.cell (World.block_lt_of_cell? w _ hx236_7)).trans hx236_7
                 replace hx236_8 := (HB.out.cell (World.block_lt_of_cell? w _ hx236_8)).trans hx236_8
                 replace hx236_9 := (HB.out.cell (World.block_lt_of_cell? w _ hx236_9)).trans hx236_9
                 replace hx236_10 := (HB.out.cell (World.block_lt_of_cell? w _ hx236_10)).trans hx236_10
                 replace p236 := eq_true p236
                 replace q236 := eq_true q236
                 refine start_ (n := 13) (S := fun w' => w'.cell? ⟨gb213, 0, none⟩ = some (.int .i64 a0_0) ∧ w'.cell? ⟨gb213, 1, none⟩ = some (.slice (some ad235) l0_1.length c0_1) ∧ w'.cell? (ad235.add ((x13_4).toNat * 11)) = some (.string ((rd_T39 l0_1 x13_4).f0)) ∧ w'.cell? ⟨(ad235.add ((x13_4).toNat * 11)).block, (ad235.add ((x13_4).toNat * 11)).off + 1, none⟩ = some (.int .i64 ((rd_T39 l0_1 x13_4).f1)) ∧ w'.cell? ⟨(ad235.add ((x13_4).toNat * 11)).block, (ad235.add ((x13_4).toNat * 11)).off + 2, none⟩ = some (.int .i64 ((rd_T39 l0_1 x13_4).f2)) ∧ w'.cell? ⟨(ad235.add ((x13_4).toNat * 11)).block, (ad235.add ((x13_4).toNat * 11)).off + 3, none⟩ = some (.int .i64 ((rd_T39 l0_1 x13_4).f3)) ∧ w'.cell? ⟨(ad235.add ((x13_4).toNat * 11)).block, (ad235.add ((x13_4).toNat * 11)).off + 4, none⟩ = some (.int .i64 ((rd_T39 l0_1 x13_4).f4)) ∧ w'.cell? ⟨(ad235.add ((x13_4).toNat * 11)).block, (ad235.add ((x13_4).toNat * 11)).off + 5, none⟩ = some (.int .i64 ((rd_T39 l0_1 x13_4).f5)) ∧ w'.cell? ⟨(ad235.add ((x13_4).toNat * 11)).block, (ad235.add ((x13_4).toNat * 11)).off + 6, none⟩ = some (.int .i64 ((rd_T39 l0_1 x13_4).f6)) ∧ w'.cell? ⟨(ad235.add ((x13_4).toNat * 11)).block, (ad235.add ((x13_4).toNat * 11)).off + 7, none⟩ = some (.int .i64 ((rd_T39 l0_1 x13_4).f7)) ∧ w'.cell? ⟨(ad235.add ((x13_4).toNat * 11)).block, (ad235.add ((x13_4).toNat * 11)).off + 8, none⟩ = some (.int .i64 ((rd_T39 l0_1 x13_4).f8)) ∧ w'.cell? ⟨(ad235.add ((x13_4).toNat * 11)).block, (ad235.add ((x13_4).toNat * 11)).off + 9, none⟩ = some (.int .i64 ((rd_T39 l0_1 x13_4).f9)) ∧ w'.cell? ⟨(ad235.add ((x13_4).toNat * 11)).block, (ad235.add ((x13_4).toNat * 11)).off + 10, none⟩ = some (.int .i64 ((rd_T39 l0_1 x13_4).f10)) ∧ w'.cell? (ad235.add ((x12_4).toNat * 11)) = some (.string ((rd_T39 l0_1 x12_4).f0)) ∧ w'.cell? ⟨(ad235.add ((x12_4).toNat * 11)).block, (ad235.add ((x12_4).toNat * 11)).off + 1, none⟩ = some (.int .i64 ((rd_T39 l0_1 x12_4).f1)) ∧ w'.cell? ⟨(ad235.add ((x12_4).toNat * 11)).block, (ad235.add ((x12_4).toNat * 11)).off + 2, none⟩ = some (.int .i64 ((rd_T39 l0_1 x12_4).f2)) ∧ w'.cell? ⟨(ad235.add ((x12_4).toNat * 11)).block, (ad235.add ((x12_4).toNat * 11)).off + 3, none⟩ = some (.int .i64 ((rd_T39 l0_1 x12_4).f3)) ∧ w'.cell? ⟨(ad235.add ((x12_4).toNat * 11)).block, (ad235.add ((x12_4).toNat * 11)).off + 4, none⟩ = some (.int .i64 ((rd_T39 l0_1 x12_4).f4)) ∧ w'.cell? ⟨(ad235.add ((x12_4).toNat * 11)).block, (ad235.add ((x12_4).toNat * 11)).off + 5, none⟩ = some (.int .i64 ((rd_T39 l0_1 x12_4).f5)) ∧ w'.cell? ⟨(ad235.add ((x12_4).toNat * 11)).block, (ad235.add ((x12_4).toNat * 11)).off + 6, none⟩ = some (.int .i64 ((rd_T39 l0_1 x12_4).f6)) ∧ w'.cell? ⟨(ad235.add ((x12_4).toNat * 11)).block, (ad235.add ((x12_4).toNat * 11)).off + 7, none⟩ = some (.int .i64 ((rd_T39 l0_1 x12_4).f7)) ∧ w'.cell? ⟨(ad235.add ((x12_4).toNat * 11)).block, (ad235.add ((x12_4).toNat * 11)).off + 8, none⟩ = some (.int .i64 ((rd_T39 l0_1 x12_4).f8)) ∧ w'.cell? ⟨(ad235.add ((x12_4).toNat * 11)).block, (ad235.add ((x12_4).toNat * 11)).off + 9, none⟩ = some (.int .i64 ((rd_T39 l0_1 x12_4).f9)) ∧ w'.cell? ⟨(ad235.add ((x12_4).toNat * 11)).block, (ad235.add ((x12_4).toNat * 11)).off + 10, none⟩ = some (.int .i64 ((rd_T39 l0_1 x12_4).f10))) (ds := []) #[false, false, false, false, false, false, false, false, false, false, false, false, false] (by kernel_rfl) rfl rfl ⟨(z23_ BK213.out 0).trans rfl, (z23_ BK213.out 1).trans rfl, ((HB.out.cell (World.block_lt_of_cell? w _ hw235_0)).trans hw235_0), ((HB.out.cell (World.block_lt_of_cell? w _ hw235_1)).trans hw235_1), ((HB.out.cell (World.block_lt_of_cell? w _ hw235_2)).trans hw235_2), ((HB.out.cell (World.block_lt_of_cell? w _ hw235_3)).trans hw235_3), ((HB.out.cell (World.block_lt_of_cell? w _ hw235_4)).trans hw235_4), ((HB.out.cell (World.block_lt_of_cell? w _ hw235_5)).trans hw235_5), ((HB.out.cell (World.block_lt_of_cell? w _ hw235_6)).trans hw235_6), ((HB.out.cell (World.block_lt_of_cell? w _ hw235_7)).trans hw235_7), ((HB.out.cell (World.block_lt_of_cell? w _ hw235_8)).trans hw235_8), ((HB.out.cell (World.block_lt_of_cell? w _ hw235_9)).trans hw235_9), ((HB.out.cell (World.block_lt_of_cell? w _ hw235_10)).trans hw235_10), ((HB.out.cell (World.block_lt_of_cell? w _ hw236_0)).trans hw236_0), ((HB.out.cell (World.block_lt_of_cell? w _ hw236_1)).trans hw236_1), ((HB.out.cell (World.block_lt_of_cell? w _ hw236_2)).trans hw236_2), ((HB.out.cell (World.block_lt_of_cell? w _ hw236_3)).trans hw236_3), ((HB.out.cell (World.block_lt_of_cell? w _ hw236_4)).trans hw236_4), ((HB.out.cell (World.block_lt_of_cell? w _ hw236_5)).trans hw236_5), ((HB.out.cell (World.block_lt_of_cell? w _ hw236_6)).trans hw236_6), ((HB.out.cell (World.block_lt_of_cell? w _ hw236_7)).trans hw236_7), ((HB.out.cell (World.block_lt_of_cell? w _ hw236_8)).trans hw236_8), ((HB.out.cell (World.block_lt_of_cell? w _ hw236_9)).trans hw236_9), ((HB.out.cell (World.block_lt_of_cell? w _ hw236_10)).trans hw236_10)⟩ (fun hHeld => ?_); refine with_tabW pendulumlaw21_GapBursts.tab16 pendulumlaw21_GapBursts.bits16 (fun HT_ HW_ => ?_)
                 generalize wr.drew = w61 at HO_227002 HO_235002 BK213 BK218 BK226 BK234 HB hx235_0 hx235_1 hx235_10 hx235_2 hx235_3 hx235_4 hx235_5 hx235_6 hx235_7 hx235_8 hx235_9 hx236_0 hx236_1 hx236_10 hx236_2 hx236_3 hx236_4 hx236_5 hx236_6 hx236_7 hx236_8 hx236_9 hHeld ⊢
                 refine pure_ (i := 0) (N := some 77) (v := ?_) (a' := ?_) #[true, false, false, false, false, false, false, false, false, false, false, false, false] rfl rfl (any_of HT_.out (by kernel_rfl)) (fun _ _ _ h => h) (Or.inl ⟨by rfl, ?_⟩) ?_ ?_
                 rotate_left
                 ·intro w'
                  go_simp
                  with_reducible rfl
                 rotate_left
                 ·simp only [Act.put, z15_, z16_, z17_, i64_w, i32_w]
                  rfl
                 refine pure_ (i := 2) (N := some 79) (v := ?_) (a' := ?_) #[true, false, true, false, false, false, false, false, false, false, false, false, false] rfl rfl (any_of HT_.out (by kernel_rfl)) (fun _ _ _ h => h) (Or.inl ⟨by rfl, ?_⟩) ?_ ?_
                 rotate_left
                 ·intro w'
                  go_simp
                  with_reducible rfl
                 rotate_left
                 ·simp only [Act.put, z15_, z16_, z17_, i64_w, i32_w]
                  rfl
                 refine pure_ (i := 6) (N := some 83) (v := ?_) (a' := ?_) #[true, false, true, false, false, false, true, false, false, false, false, false, false] rfl rfl (any_of HT_.out (by kernel_rfl)) (fun _ _ _ h => h) (Or.inl ⟨by rfl, ?_⟩) ?_ ?_
                 rotate_left
                 ·intro w'
                  go_simp
                  with_reducible rfl
                 rotate_left
                 ·simp only [Act.put, z15_, z16_, z17_, i64_w, i32_w]
                  rfl
                 refine pure_ (i := 8) (N := some 85) (v := ?_) (a' := ?_) #[true, false, true, false, false, false, true, false, true, false, false, false, false] rfl rfl (any_of HT_.out (by kernel_rfl)) (fun _ _ _ h => h) (Or.inl ⟨by rfl, ?_⟩) ?_ ?_
                 rotate_left
                 ·intro w'
                  go_simp
                  with_reducible rfl
                 rotate_left
                 ·simp only [Act.put, z15_, z16_, z17_, i64_w, i32_w]
                  rfl
                 refine take_ (i := 1) (N := some 78) (v := ?_) (a' := ?_) #[true, true, true, false, false, false, true, false, true, false, false, false, false] rfl rfl (take_ofW HT_.out HW_.out (by kernel_rfl)) (fun _ _ _ h => h) (Or.inl ⟨by rfl, ?_⟩) hHeld ?_ ?_
                 rotate_left
                 ·rintro w' ⟨s0, s1, s2, s3, s4, s5, s6, s7, s8, s9, s10, s11, s12, s13, s14, s15, s16, s17, s18, s19, s20, s21, s22, s23⟩
                  go_simp
                  with_reducible rfl
                 rotate_left
                 ·simp only [Act.put, z15_, z16_, z17_, i64_w, i32_w]
                  rfl
                 refine pure_ (i := 3) (N := some 80) (v := ?_) (a' := ?_) #[true, true, true, true, false, false, true, false, true, false, false, false, false] rfl rfl (any_of HT_.out (by kernel_rfl)) (fun _ _ _ h => h) (Or.inl ⟨by rfl, ?_⟩) ?_ ?_
                 rotate_left
                 ·intro w'
                  go_simp
                  with_reducible rfl
                 rotate_left
                 ·simp only [Act.put, z15_, z16_, z17_, i64_w, i32_w]
                  rfl
                 refine pure_ (i := 4) (N := some 81) (v := ?_) (a' := ?_) #[true, true, true, true, true, false, true, false, true, false, false, false, false] rfl rfl (any_of HT_.out (by kernel_rfl)) (fun _ _ _ h => h) (Or.inl ⟨by rfl, ?_⟩) ?_ ?_
                 rotate_left
                 ·intro w'
                  go_simp
                  with_reducible rfl
                 rotate_left
                 ·simp only [Act.put, z15_, z16_, z17_, i64_w, i32_w]
                  rfl
                 refine take_ (i := 5) (N := some 82) (v := ?_) (a' := ?_) #[true, true, true, true, true, true, true, false, true, false, false, false, false] rfl rfl (take_ofW HT_.out HW_.out (by kernel_rfl)) (fun _ _ _ h => h) (Or.inl ⟨by rfl, ?_⟩) hHeld ?_ ?_
                 rotate_left
                 ·rintro w' ⟨s0, s1, s2, s3, s4, s5, s6, s7, s8, s9, s10, s11, s12, s13, s14, s15, s16, s17, s18, s19, s20, s21, s22, s23⟩
                  go_simp
                  with_reducible rfl
                 rotate_left
                 ·simp only [Act.put, z15_, z16_, z17_, i64_w, i32_w]
                  rfl
                 refine take_ (i := 7) (N := some 84) (v := ?_) (a' := ?_) #[true, true, true, true, true, true, true, true, true, false, false, false, false] rfl rfl (take_ofW HT_.out HW_.out (by kernel_rfl)) (fun _ _ _ h => h) (Or.inl ⟨by rfl, ?_⟩) hHeld ?_ ?_
                 rotate_left
                 ·rintro w' ⟨s0, s1, s2, s3, s4, s5, s6, s7, s8, s9, s10, s11, s12, s13, s14, s15, s16, s17, s18, s19, s20, s21, s22, s23⟩
                  go_simp
                  with_reducible rfl
                 rotate_left
                 ·simp only [Act.put, z15_, z16_, z17_, i64_w, i32_w]
                  rfl
                 refine pure_ (i := 9) (N := some 86) (v := ?_) (a' := ?_) #[true, true, true, true, true, true, true, true, true, true, false, false, false] rfl rfl (any_of HT_.out (by kernel_rfl)) (fun _ _ _ h => h) (Or.inl ⟨by rfl, ?_⟩) ?_ ?_
                 rotate_left
                 ·intro w'
                  go_simp
                  with_reducible rfl
                 rotate_left
                 ·simp only [Act.put, z15_, z16_, z17_, i64_w, i32_w]
                  rfl
                 refine pure_ (i := 10) (N := some 87) (v := ?_) (a' := ?_) #[true, true, true, true, true, true, true, true, true, true, true, false, false] rfl rfl (any_of HT_.out (by kernel_rfl)) (fun _ _ _ h => h) (Or.inl ⟨by rfl, ?_⟩) ?_ ?_
                 rotate_left
                 ·intro w'
                  go_simp
                  with_reducible rfl
                 rotate_left
                 ·simp only [Act.put, z15_, z16_, z17_, i64_w, i32_w]
                  rfl
                 refine take_ (i := 11) (N := some 88) (v := ?_) (a' := ?_) #[true, true, true, true, true, true, true, true, true, true, true, true, false] rfl rfl (take_ofW HT_.out HW_.out (by kernel_rfl)) (fun _ _ _ h => h) (Or.inl ⟨by rfl, ?_⟩) hHeld ?_ ?_
                 rotate_left
                 ·rintro w' ⟨s0, s1, s2, s3, s4, s5, s6, s7, s8, s9, s10, s11, s12, s13, s14, s15, s16, s17, s18, s19, s20, s21, s22, s23⟩
                  go_simp
                  with_reducible rfl
                 rotate_left
                 ·simp only [Act.put, z15_, z16_, z17_, i64_w, i32_w]
                  rfl
                 refine pure_ (i := 12) (N := some 89) (v := ?_) (a' := ?_) #[true, true, true, true, true, true, true, true, true, true, true, true, true] rfl rfl (any_of HT_.out (by kernel_rfl)) (fun _ _ _ h => h) (Or.inl ⟨by rfl, ?_⟩) ?_ ?_
                 rotate_left
                 ·intro w'
                  go_simp
                  with_reducible rfl
                 rotate_left
                 ·simp only [Act.put, z15_, z16_, z17_, i64_w, i32_w]
                  rfl
                 refine done_ (done_of HT_.out (by kernel_rfl)) ?_
                 try go_wp2
                 go_roundg k4
                 case measure => have := HJ2.out; have := HJ21.out; have := HJ32.out; have := HK4.out; omega
                 case rel => exact ⟨(x13_4), (wrap64 (x13_4 + 1)), (by first | rfl | (simp; done) | (simp [*]; done)), (by first | rfl | (simp; done) | (simp [*]; done)), H', ⟨by have := HJ2.out; have := HJ21.out; have := HJ32.out; have := HK4.out; omega⟩, ⟨by (with_reducible repeat (first | apply z9_ | apply z7_ | apply z8_)); exact HO_227002.out⟩, ⟨by (with_reducible repeat (first | apply z9_ | apply z7_ | apply z8_)); exact HO_235002.out⟩, ⟨by (with_reducible repeat (first | refine z0_ ?_ _ | refine z1_ ?_ | refine z2_ ?_ _)); exact BK213.out⟩, ⟨by (with_reducible repeat (first | refine z0_ ?_ _ | refine z1_ ?_ | refine z2_ ?_ _)); exact BK218.out⟩, ⟨by (with_reducible repeat (first | refine z0_ ?_ _ | refine z1_ ?_ | refine z2_ ?_ _)); exact BK226.out⟩, ⟨by (with_reducible repeat (first | refine z0_ ?_ _ | refine z1_ ?_ | refine z2_ ?_ _)); exact BK234.out⟩, ⟨by repeat (first | (with_reducible first | exact HB.out | apply z6_ | apply z4_ | apply z5_ | refine z3_ ?_ GE213.out | refine z3_ ?_ GE218.out | refine z3_ ?_ GE226.out | refine z3_ ?_ GE234.out) | exact HB.out)⟩⟩
                ·rw [if_neg c56] at H
                 have c56b0 : decide (((rd_T39 l0_1 x12_4).f10) < ((rd_T39 l0_1 x13_4).f10)) = false := decide_eq_false c56
                 clear c56
                 have H' := Aside0.mk H
                 clear H
                 have hnb62 := NB213_218.out
                 have hnc62 := NB218_213.out
                 have hnb63 := NB213_226.out
                 have hnc63 := NB226_213.out
                 have hnb64 := NB213_234.out
                 have hnc64 := NB234_213.out
                 have hcz65_0 : wr.cell? ⟨gb213, 0, none⟩ = some (.int .i64 a0_0) := (z23_ BK213.out 0).trans rfl
                 have hcz65_1 : wr.cell? ⟨gb213, 1, none⟩ = some (.slice A0_1 l0_1.length c0_1) := (z23_ BK213.out 1).trans rfl
                 have hfz65_0 := blk_frozen BK213.out 0
                 have hfz65_1 := blk_frozen BK213.out 1
                 try go_wp2
                 have n0_ := Aside0.mk (z8_ HO_227002.out)
                 have n1_ := Aside0.mk (z8_ HO_235002.out)
                 have n2_ := Aside0.mk (z1_ BK213.out)
                 have n3_ := Aside0.mk (z1_ BK218.out)
                 have n4_ := Aside0.mk (z1_ BK226.out)
                 have n5_ := Aside0.mk (z1_ BK234.out)
                 have n6_ := Aside0.mk (z5_ HB.out)
                 clear HO_227002
                 clear HO_235002
                 clear BK213
                 clear BK218
                 clear BK226
                 clear BK234
                 clear HB
                 have HO_227002 := n0_
                 have HO_235002 := n1_
                 have BK213 := n2_
                 have BK218 := n3_
                 have BK226 := n4_
                 have BK234 := n5_
                 have HB := n6_
                 clear n0_ n1_ n2_ n3_ n4_ n5_ n6_
                 have p235 : 0 ≤ (x13_4 : Int) := of_decide_eq_true (by first | (with_reducible assumption) | assumption)
                 have q235 : x13_4 < (l0_1.length : Int) := of_decide_eq_true (by first | (with_reducible assumption) | assumption)
                 obtain ⟨ad235, e235, hx235_0, hx235_1, hx235_2, hx235_3, hx235_4, hx235_5, hx235_6, hx235_7, hx235_8, hx235_9, hx235_10⟩ := at_T39 HR0_1.out x13_4 p235 q235
                 have hw235_10 := hx235_10
                 have hw235_9 := hx235_9
                 have hw235_8 := hx235_8
                 have hw235_7 := hx235_7
                 have hw235_6 := hx235_6
                 have hw235_5 := hx235_5
                 have hw235_4 := hx235_4
                 have hw235_3 := hx235_3
                 have hw235_2 := hx235_2
                 have hw235_1 := hx235_1
                 have hw235_0 := hx235_0
                 cases e235
                 replace hx235_0 := (HB.out.cell (World.block_lt_of_cell? w _ hx235_0)).trans hx235_0
                 replace hx235_1 := (HB.out.cell (World.block_lt_of_cell? w _ hx235_1)).trans hx235_1
                 replace hx235_2 := (HB.out.cell (World.block_lt_of_cell? w _ hx235_2)).trans hx235_2
                 replace hx235_3 := (HB.out.cell (World.block_lt_of_cell? w _ hx235_3)).trans hx235_3
                 replace hx235_4 := (HB.out.cell (World.block_lt_of_cell? w _ hx235_4)).trans hx235_4
                 replace hx235_5 := (HB.out.cell (World.block_lt_of_cell? w _ hx235_5)).trans hx235_5
                 replace hx235_6 := (HB.out.cell (World.block_lt_of_cell? w _ hx235_6)).trans hx235_6
                 replace hx235_7 := (HB.out.cell (World.block_lt_of_cell? w _ hx235_7)).trans hx235_7
                 replace hx235_8 := (HB.out.cell (World.block_lt_of_cell? w _ hx235_8)).trans hx235_8
                 replace hx235_9 := (HB.out.cell (World.block_lt_of_cell? w _ hx235_9)).trans hx235_9
                 replace hx235_10 := (HB.out.cell (World.block_lt_of_cell? w _ hx235_10)).trans hx235_10
                 replace p235 := eq_true p235
                 replace q235 := eq_true q235
                 have p236 : 0 ≤ (x12_4 : Int) := of_decide_eq_true (by first | (with_reducible assumption) | assumption)
                 have q236 : x12_4 < (l0_1.length : Int) := of_decide_eq_true (by first | (with_reducible assumption) | assumption)
                 obtain ⟨ad236, e236, hx236_0, hx236_1, hx236_2, hx236_3, hx236_4, hx236_5, hx236_6, hx236_7, hx236_8, hx236_9, hx236_10⟩ := at_T39 HR0_1.out x12_4 p236 q236
                 have hw236_10 := hx236_10
                 have hw236_9 := hx236_9
                 have hw236_8 := hx236_8
                 have hw236_7 := hx236_7
                 have hw236_6 := hx236_6
                 have hw236_5 := hx236_5
                 have hw236_4 := hx236_4
                 have hw236_3 := hx236_3
                 have hw236_2 := hx236_2
                 have hw236_1 := hx236_1
                 have hw236_0 := hx236_0
                 obtain rfl : ad235 = ad236 := (by injection e236)
                 replace hx236_0 := (HB.out.cell (World.block_lt_of_cell? w _ hx236_0)).trans hx236_0
                 replace hx236_1 := (HB.out.cell (World.block_lt_of_cell? w _ hx236_1)).trans hx236_1
                 replace hx236_2 := (HB.out.cell (World.block_lt_of_cell? w _ hx236_2)).trans hx236_2
                 replace hx236_3 := (HB.out.cell (World.block_lt_of_cell? w _ hx236_3)).trans hx236_3
                 replace hx236_4 := (HB.out.cell (World.block_lt_of_cell? w _ hx236_4)).trans hx236_4
                 replace hx236_5 := (HB.out.cell (World.block_lt_of_cell? w _ hx236_5)).trans hx236_5
                 replace hx236_6 := (HB.out.cell (World.block_lt_of_cell? w _ hx236_6)).trans hx236_6
                 replace hx236_7 := (HB.out.cell (World.block_lt_of_cell? w _ hx236_7)).trans hx236_7
                 replace hx236_8 := (HB.out.cell (World.block_lt_of_cell? w _ hx236_8)).trans hx236_8
                 replace hx236_9 := (HB.out.cell (World.block_lt_of_cell? w _ hx236_9)).trans hx236_9
                 replace hx236_10 := (HB.out.cell (World.block_lt_of_cell? w _ hx236_10)).trans hx236_10
                 replace p236 := eq_true p236
                 replace q236 := eq_true q236
                 refine start_ (n := 13) (S := fun w' => w'.cell? ⟨gb213, 0, none⟩ = some (.int .i64 a0_0) ∧ w'.cell? ⟨gb213, 1, none⟩ = some (.slice (some ad235) l0_1.length c0_1) ∧ w'.cell? (ad235.add ((x13_4).toNat * 11)) = some (.string ((rd_T39 l0_1 x13_4).f0)) ∧ w'.cell? ⟨(ad235.add ((x13_4).toNat * 11)).block, (ad235.add ((x13_4).toNat * 11)).off + 1, none⟩ = some (.int .i64 ((rd_T39 l0_1 x13_4).f1)) ∧ w'.cell? ⟨(ad235.add ((x13_4).toNat * 11)).block, (ad235.add ((x13_4).toNat * 11)).off + 2, none⟩ = some (.int .i64 ((rd_T39 l0_1 x13_4).f2)) ∧ w'.cell? ⟨(ad235.add ((x13_4).toNat * 11)).block, (ad235.add ((x13_4).toNat * 11)).off + 3, none⟩ = some (.int .i64 ((rd_T39 l0_1 x13_4).f3)) ∧ w'.cell? ⟨(ad235.add ((x13_4).toNat * 11)).block, (ad235.add ((x13_4).toNat * 11)).off + 4, none⟩ = some (.int .i64 ((rd_T39 l0_1 x13_4).f4)) ∧ w'.cell? ⟨(ad235.add ((x13_4).toNat * 11)).block, (ad235.add ((x13_4).toNat * 11)).off + 5, none⟩ = some (.int .i64 ((rd_T39 l0_1 x13_4).f5)) ∧ w'.cell? ⟨(ad235.add ((x13_4).toNat * 11)).block, (ad235.add ((x13_4).toNat * 11)).off + 6, none⟩ = some (.int .i64 ((rd_T39 l0_1 x13_4).f6)) ∧ w'.cell? ⟨(ad235.add ((x13_4).toNat * 11)).block, (ad235.add ((x13_4).toNat * 11)).off + 7, none⟩ = some (.int .i64 ((rd_T39 l0_1 x13_4).f7)) ∧ w'.cell? ⟨(ad235.add ((x13_4).toNat * 11)).block, (ad235.add ((x13_4).toNat * 11)).off + 8, none⟩ = some (.int .i64 ((rd_T39 l0_1 x13_4).f8)) ∧ w'.cell? ⟨(ad235.add ((x13_4).toNat * 11)).block, (ad235.add ((x13_4).toNat * 11)).off + 9, none⟩ = some (.int .i64 ((rd_T39 l0_1 x13_4).f9)) ∧ w'.cell? ⟨(ad235.add ((x13_4).toNat * 11)).block, (ad235.add ((x13_4).toNat * 11)).off + 10, none⟩ = some (.int .i64 ((rd_T39 l0_1 x13_4).f10)) ∧ w'.cell? (ad235.add ((x12_4).toNat * 11)) = some (.string ((rd_T39 l0_1 x12_4).f0)) ∧ w'.cell? ⟨(ad235.add ((x12_4).toNat * 11)).block, (ad235.add ((x12_4).toNat * 11)).off + 1, none⟩ = some (.int .i64 ((rd_T39 l0_1 x12_4).f1)) ∧ w'.cell? ⟨(ad235.add ((x12_4).toNat * 11)).block, (ad235.add ((x12_4).toNat * 11)).off + 2, none⟩ = some (.int .i64 ((rd_T39 l0_1 x12_4).f2)) ∧ w'.cell? ⟨(ad235.add ((x12_4).toNat * 11)).block, (ad235.add ((x12_4).toNat * 11)).off + 3, none⟩ = some (.int .i64 ((rd_T39 l0_1 x12_4).f3)) ∧ w'.cell? ⟨(ad235.add ((x12_4).toNat * 11)).block, (ad235.add ((x12_4).toNat * 11)).off + 4, none⟩ = some (.int .i64 ((rd_T39 l0_1 x12_4).f4)) ∧ w'.cell? ⟨(ad235.add ((x12_4).toNat * 11)).block, (ad235.add ((x12_4).toNat * 11)).off + 5, none⟩ = some (.int .i64 ((rd_T39 l0_1 x12_4).f5)) ∧ w'.cell? ⟨(ad235.add ((x12_4).toNat * 11)).block, (ad235.add ((x12_4).toNat * 11)).off + 6, none⟩ = some (.int .i64 ((rd_T39 l0_1 x12_4).f6)) ∧ w'.cell? ⟨(ad235.add ((x12_4).toNat * 11)).block, (ad235.add ((x12_4).toNat * 11)).off + 7, none⟩ = some (.int .i64 ((rd_T39 l0_1 x12_4).f7)) ∧ w'.cell? ⟨(ad235.add ((x12_4).toNat * 11)).block, (ad235.add ((x12_4).toNat * 11)).off + 8, none⟩ = some (.int .i64 ((rd_T39 l0_1 x12_4).f8)) ∧ w'.cell? ⟨(ad235.add ((x12_4).toNat * 11)).block, (ad235.add ((x12_4).toNat * 11)).off + 9, none⟩ = some (.int .i64 ((rd_T39 l0_1 x12_4).f9)) ∧ w'.cell? ⟨(ad235.add ((x12_4).toNat * 11)).block, (ad235.add ((x12_4).toNat * 11)).off + 10, none⟩ = some (.int .i64 ((rd_T39 l0_1 x12_4).f10))) (ds := []) #[false, false, false, false, false, false, false, false, false, false, false, false, false] (by kernel_rfl) rfl rfl ⟨(z23_ BK213.out 0).trans rfl, (z23_ BK213.out 1).trans rfl, ((HB.out.cell (World.block_lt_of_cell? w _ hw235_0)).trans hw235_0), ((HB.out.cell (World.block_lt_of_cell? w _ hw235_1)).trans hw235_1), ((HB.out.cell (World.block_lt_of_cell? w _ hw235_2)).trans hw235_2), ((HB.out.cell (World.block_lt_of_cell? w _ hw235_3)).trans hw235_3), ((HB.out.cell (World.block_lt_of_cell? w _ hw235_4)).trans hw235_4), ((HB.out.cell (World.block_lt_of_cell? w _ hw235_5)).trans hw235_5), ((HB.out.cell (World.block_lt_of_cell? w _ hw235_6)).trans hw235_6), ((HB.out.cell (World.block_lt_of_cell? w _ hw235_7)).trans hw235_7), ((HB.out.cell (World.block_lt_of_cell? w _ hw235_8)).trans hw235_8), ((HB.out.cell (World.block_lt_of_cell? w _ hw235_9)).trans hw235_9), ((HB.out.cell (World.block_lt_of_cell? w _ hw235_10)).trans hw235_10), ((HB.out.cell (World.block_lt_of_cell? w _ hw236_0)).trans hw236_0), ((HB.out.cell (World.block_lt_of_cell? w _ hw236_1)).trans hw236_1), ((HB.out.cell (World.block_lt_of_cell? w _ hw236_2)).trans hw236_2), ((HB.out.cell (World.block_lt_of_cell? w _ hw236_3)).trans hw236_3), ((HB.out.cell (World.block_lt_of_cell? w _ hw236_4)).trans hw236_4), ((HB.out.cell (World.block_lt_of_cell? w _ hw236_5)).trans hw236_5), ((HB.out.cell (World.block_lt_of_cell? w _ hw236_6)).trans hw236_6), ((HB.out.cell (World.block_lt_of_cell? w _ hw236_7)).trans hw236_7), ((HB.out.cell (World.block_lt_of_cell? w _ hw236_8)).trans hw236_8), ((HB.out.cell (World.block_lt_of_cell? w _ hw236_9)).trans hw236_9), ((HB.out.cell (World.block_lt_of_cell? w _ hw236_10)).trans hw236_10)⟩ (fun hHeld => ?_); refine with_tabW pendulumlaw21_GapBursts.tab16 pendulumlaw21_GapBursts.bits16 (fun HT_ HW_ => ?_)
                 generalize wr.drew = w66 at HO_227002 HO_235002 BK213 BK218 BK226 BK234 HB hx235_0 hx235_1 hx235_10 hx235_2 hx235_3 hx235_4 hx235_5 hx235_6 hx235_7 hx235_8 hx235_9 hx236_0 hx236_1 hx236_10 hx236_2 hx236_3 hx236_4 hx236_5 hx236_6 hx236_7 hx236_8 hx236_9 hHeld ⊢
                 refine pure_ (i := 0) (N := some 77) (v := ?_) (a' := ?_) #[true, false, false, false, false, false, false, false, false, false, false, false, false] rfl rfl (any_of HT_.out (by kernel_rfl)) (fun _ _ _ h => h) (Or.inl ⟨by rfl, ?_⟩) ?_ ?_
                 rotate_left
                 ·intro w'
                  go_simp
                  with_reducible rfl
                 rotate_left
                 ·simp only [Act.put, z15_, z16_, z17_, i64_w, i32_w]
                  rfl
                 refine pure_ (i := 2) (N := some 79) (v := ?_) (a' := ?_) #[true, false, true, false, false, false, false, false, false, false, false, false, false] rfl rfl (any_of HT_.out (by kernel_rfl)) (fun _ _ _ h => h) (Or.inl ⟨by rfl, ?_⟩) ?_ ?_
                 rotate_left
                 ·intro w'
                  go_simp
                  with_reducible rfl
                 rotate_left
                 ·simp only [Act.put, z15_, z16_, z17_, i64_w, i32_w]
                  rfl
                 refine pure_ (i := 6) (N := some 83) (v := ?_) (a' := ?_) #[true, false, true, false, false, false, true, false, false, false, false, false, false] rfl rfl (any_of HT_.out (by kernel_rfl)) (fun _ _ _ h => h) (Or.inl ⟨by rfl, ?_⟩) ?_ ?_
                 rotate_left
                 ·intro w'
                  go_simp
                  with_reducible rfl
                 rotate_left
                 ·simp only [Act.put, z15_, z16_, z17_, i64_w, i32_w]
                  rfl
                 refine pure_ (i := 8) (N := some 85) (v := ?_) (a' := ?_) #[true, false, true, false, false, false, true, false, true, false, false, false, false] rfl rfl (any_of HT_.out (by kernel_rfl)) (fun _ _ _ h => h) (Or.inl ⟨by rfl, ?_⟩) ?_ ?_
                 rotate_left
                 ·intro w'
                  go_simp
                  with_reducible rfl
                 rotate_left
                 ·simp only [Act.put, z15_, z16_, z17_, i64_w, i32_w]
                  rfl
                 refine take_ (i := 1) (N := some 78) (v := ?_) (a' := ?_) #[true, true, true, false, false, false, true, false, true, false, false, false, false] rfl rfl (take_ofW HT_.out HW_.out (by kernel_rfl)) (fun _ _ _ h => h) (Or.inl ⟨by rfl, ?_⟩) hHeld ?_ ?_
                 rotate_left
                 ·rintro w' ⟨s0, s1, s2, s3, s4, s5, s6, s7, s8, s9, s10, s11, s12, s13, s14, s15, s16, s17, s18, s19, s20, s21, s22, s23⟩
                  go_simp
                  with_reducible rfl
                 rotate_left
                 ·simp only [Act.put, z15_, z16_, z17_, i64_w, i32_w]
                  rfl
                 refine pure_ (i := 3) (N := some 80) (v := ?_) (a' := ?_) #[true, true, true, true, false, false, true, false, true, false, false, false, false] rfl rfl (any_of HT_.out (by kernel_rfl)) (fun _ _ _ h => h) (Or.inl ⟨by rfl, ?_⟩) ?_ ?_
                 rotate_left
                 ·intro w'
                  go_simp
                  with_reducible rfl
                 rotate_left
                 ·simp only [Act.put, z15_, z16_, z17_, i64_w, i32_w]
                  rfl
                 refine pure_ (i := 4) (N := some 81) (v := ?_) (a' := ?_) #[true, true, true, true, true, false, true, false, true, false, false, false, false] rfl rfl (any_of HT_.out (by kernel_rfl)) (fun _ _ _ h => h) (Or.inl ⟨by rfl, ?_⟩) ?_ ?_
                 rotate_left
                 ·intro w'
                  go_simp
                  with_reducible rfl
                 rotate_left
                 ·simp only [Act.put, z15_, z16_, z17_, i64_w, i32_w]
                  rfl
                 refine take_ (i := 5) (N := some 82) (v := ?_) (a' := ?_) #[true, true, true, true, true, true, true, false, true, false, false, false, false] rfl rfl (take_ofW HT_.out HW_.out (by kernel_rfl)) (fun _ _ _ h => h) (Or.inl ⟨by rfl, ?_⟩) hHeld ?_ ?_
                 rotate_left
                 ·rintro w' ⟨s0, s1, s2, s3, s4, s5, s6, s7, s8, s9, s10, s11, s12, s13, s14, s15, s16, s17, s18, s19, s20, s21, s22, s23⟩
                  go_simp
                  with_reducible rfl
                 rotate_left
                 ·simp only [Act.put, z15_, z16_, z17_, i64_w, i32_w]
                  rfl
                 refine take_ (i := 7) (N := some 84) (v := ?_) (a' := ?_) #[true, true, true, true, true, true, true, true, true, false, false, false, false] rfl rfl (take_ofW HT_.out HW_.out (by kernel_rfl)) (fun _ _ _ h => h) (Or.inl ⟨by rfl, ?_⟩) hHeld ?_ ?_
                 rotate_left
                 ·rintro w' ⟨s0, s1, s2, s3, s4, s5, s6, s7, s8, s9, s10, s11, s12, s13, s14, s15, s16, s17, s18, s19, s20, s21, s22, s23⟩
                  go_simp
                  with_reducible rfl
                 rotate_left
                 ·simp only [Act.put, z15_, z16_, z17_, i64_w, i32_w]
                  rfl
                 refine pure_ (i := 9) (N := some 86) (v := ?_) (a' := ?_) #[true, true, true, true, true, true, true, true, true, true, false, false, false] rfl rfl (any_of HT_.out (by kernel_rfl)) (fun _ _ _ h => h) (Or.inl ⟨by rfl, ?_⟩) ?_ ?_
                 rotate_left
                 ·intro w'
                  go_simp
                  with_reducible rfl
                 rotate_left
                 ·simp only [Act.put, z15_, z16_, z17_, i64_w, i32_w]
                  rfl
                 refine pure_ (i := 10) (N := some 87) (v := ?_) (a' := ?_) #[true, true, true, true, true, true, true, true, true, true, true, false, false] rfl rfl (any_of HT_.out (by kernel_rfl)) (fun _ _ _ h => h) (Or.inl ⟨by rfl, ?_⟩) ?_ ?_
                 rotate_left
                 ·intro w'
                  go_simp
                  with_reducible rfl
                 rotate_left
                 ·simp only [Act.put, z15_, z16_, z17_, i64_w, i32_w]
                  rfl
                 refine take_ (i := 11) (N := some 88) (v := ?_) (a' := ?_) #[true, true, true, true, true, true, true, true, true, true, true, true, false] rfl rfl (take_ofW HT_.out HW_.out (by kernel_rfl)) (fun _ _ _ h => h) (Or.inl ⟨by rfl, ?_⟩) hHeld ?_ ?_
                 rotate_left
                 ·rintro w' ⟨s0, s1, s2, s3, s4, s5, s6, s7, s8, s9, s10, s11, s12, s13, s14, s15, s16, s17, s18, s19, s20, s21, s22, s23⟩
                  go_simp
                  with_reducible rfl
                 rotate_left
                 ·simp only [Act.put, z15_, z16_, z17_, i64_w, i32_w]
                  rfl
                 refine pure_ (i := 12) (N := some 89) (v := ?_) (a' := ?_) #[true, true, true, true, true, true, true, true, true, true, true, true, true] rfl rfl (any_of HT_.out (by kernel_rfl)) (fun _ _ _ h => h) (Or.inl ⟨by rfl, ?_⟩) ?_ ?_
                 rotate_left
                 ·intro w'
                  go_simp
                  with_reducible rfl
                 rotate_left
                 ·simp only [Act.put, z15_, z16_, z17_, i64_w, i32_w]
                  rfl
                 refine done_ (done_of HT_.out (by kernel_rfl)) ?_
                 try go_wp2
                 go_roundg k4
                 case measure => have := HJ2.out; have := HJ21.out; have := HJ32.out; have := HK4.out; omega
                 case rel => exact ⟨(x12_4), (wrap64 (x13_4 + 1)), (by first | rfl | (simp; done) | (simp [*]; done)), (by first | rfl | (simp; done) | (simp [*]; done)), H', ⟨by have := HJ2.out; have := HJ21.out; have := HJ32.out; have := HK4.out; omega⟩, ⟨by (with_reducible repeat (first | apply z9_ | apply z7_ | apply z8_)); exact HO_227002.out⟩, ⟨by (with_reducible repeat (first | apply z9_ | apply z7_ | apply z8_)); exact HO_235002.out⟩, ⟨by (with_reducible repeat (first | refine z0_ ?_ _ | refine z1_ ?_ | refine z2_ ?_ _)); exact BK213.out⟩, ⟨by (with_reducible repeat (first | refine z0_ ?_ _ | refine z1_ ?_ | refine z2_ ?_ _)); exact BK218.out⟩, ⟨by (with_reducible repeat (first | refine z0_ ?_ _ | refine z1_ ?_ | refine z2_ ?_ _)); exact BK226.out⟩, ⟨by (with_reducible repeat (first | refine z0_ ?_ _ | refine z1_ ?_ | refine z2_ ?_ _)); exact BK234.out⟩, ⟨by repeat (first | (with_reducible first | exact HB.out | apply z6_ | apply z4_ | apply z5_ | refine z3_ ?_ GE213.out | refine z3_ ?_ GE218.out | refine z3_ ?_ GE226.out | refine z3_ ?_ GE234.out) | exact HB.out)⟩⟩
               ·rw [if_neg c55] at H
                exact absurd H (by simp)
              ·rw [if_neg c54] at H
               exact absurd H (by simp)
             ·rw [if_neg c53] at H
              exact absurd H (by simp)
            ·rw [if_neg c52] at H
             have c52b0 : decide (x13_4 < (l0_1.length : Int)) = false := decide_eq_false c52
             clear c52
             by_cases c67 : (l0_1.length : Int) = 1
             ·rw [if_pos c67] at H
              have c67b0 : ((l0_1.length : Int) == 1) = true := beq_iff_eq.mpr c67
              have c67b1 : ((l0_1.length : Int) != 1) = false := bne_eq_false_iff_eq.mpr c67
              clear c67
              obtain rfl := Option.some.inj H
              have hnb68 := NB213_218.out
              have hnc68 := NB218_213.out
              have hnb69 := NB213_226.out
              have hnc69 := NB226_213.out
              have hnb70 := NB213_234.out
              have hnc70 := NB234_213.out
              have hcz71_0 : wr.cell? ⟨gb213, 0, none⟩ = some (.int .i64 a0_0) := (z23_ BK213.out 0).trans rfl
              have hcz71_1 : wr.cell? ⟨gb213, 1, none⟩ = some (.slice A0_1 l0_1.length c0_1) := (z23_ BK213.out 1).trans rfl
              have hfz71_0 := blk_frozen BK213.out 0
              have hfz71_1 := blk_frozen BK213.out 1
              go_wp2
              go_ret
              exact ⟨by first | rfl | (simp [errW_none, errW_some] <;> rfl) | (simp [*, errW_none, errW_some] <;> rfl), by repeat (first | (with_reducible first | exact HB.out | apply z6_ | apply z4_ | apply z5_ | refine z3_ ?_ GE213.out | refine z3_ ?_ GE218.out | refine z3_ ?_ GE226.out | refine z3_ ?_ GE234.out) | exact HB.out)⟩
             ·rw [if_neg c67] at H
              have c67b0 : ((l0_1.length : Int) == 1) = false := beq_eq_false_iff_ne.mpr c67
              have c67b1 : ((l0_1.length : Int) != 1) = true := bne_iff_ne.mpr c67
              obtain ⟨y237, hy237⟩ : ∃ y_ : List (S39), y_ = (([] : List (S39))) := ⟨_, rfl⟩
              replace H : (if 0 ≤ x12_4 then (if x12_4 ≤ (l0_1.length : Int) then ((some (l0_1.take (x12_4 : Int).toNat : List (S39))).bind fun y240 => (if y237.length + y240.length < 1466015503701 then ((some (y237 ++ y240 : List (S39))).bind fun y244 => (if 0 ≤ (wrap64 (x12_4 + 1)) then (if (wrap64 (x12_4 + 1)) ≤ (l0_1.length : Int) then ((some (l0_1.drop ((wrap64 (x12_4 + 1)) : Int).toNat : List (S39))).bind fun y247 => (if y244.length + y247.length < 1466015503701 then ((gap_Least.f a0_0 (y244 ++ y247)).bind fun bt254 => (if bt254.2.2.2.2 = 0 then (if bt254.1 ≤ t219 then ((gap_Asked.f a0_0 l0_1).bind fun t262 => (some (t262 == 21))) else (some false)) else (some false))) else (none))) else (none)) else (none))) else (none))) else (none)) else (none)) = some r := by first | (rw [hy237]; with_reducible exact H) | (have H2_ := (Option.bind_some _ _).symm.trans H; rw [hy237]; with_reducible exact H2_) | (have H2_ := (Option.bind_some _ _).symm.trans H; with_reducible exact H2_) | with_reducible exact H | (rw [hy237]; exact H) | exact H
              have Ny237 := Aside0.mk hy237
              clear hy237
              by_cases c72 : 0 ≤ x12_4
              ·rw [if_pos c72] at H
               have c72b0 := eq_true c72
               have c72b1 : decide (0 ≤ x12_4) = true := decide_eq_true c72
               clear c72
               by_cases c73 : x12_4 ≤ (l0_1.length : Int)
               ·rw [if_pos c73] at H
                have c73b0 := eq_true c73
                have c73b1 : decide (x12_4 ≤ (l0_1.length : Int)) = true := decide_eq_true c73
                clear c73
                obtain ⟨y240, hy240⟩ : ∃ y_ : List (S39), y_ = (l0_1.take (x12_4 : Int).toNat) := ⟨_, rfl⟩
                replace H : (if y237.length + y240.length < 1466015503701 then ((some (y237 ++ y240 : List (S39))).bind fun y244 => (if 0 ≤ (wrap64 (x12_4 + 1)) then (if (wrap64 (x12_4 + 1)) ≤ (l0_1.length : Int) then ((some (l0_1.drop ((wrap64 (x12_4 + 1)) : Int).toNat : List (S39))).bind fun y247 => (if y244.length + y247.length < 1466015503701 then ((gap_Least.f a0_0 (y244 ++ y247)).bind fun bt254 => (if bt254.2.2.2.2 = 0 then (if bt254.1 ≤ t219 then ((gap_Asked.f a0_0 l0_1).bind fun t262 => (some (t262 == 21))) else (some false)) else (some false))) else (none))) else (none)) else (none))) else (none)) = some r := by first | (rw [hy240]; with_reducible exact H) | (have H2_ := (Option.bind_some _ _).symm.trans H; rw [hy240]; with_reducible exact H2_) | (have H2_ := (Option.bind_some _ _).symm.trans H; with_reducible exact H2_) | with_reducible exact H | (rw [hy240]; exact H) | exact H
                have Ny240 := Aside0.mk hy240
                clear hy240
                by_cases c74 : y237.length + y240.length < 1466015503701
                ·rw [if_pos c74] at H
                 have LMc74 := Aside0.mk c74
                 clear c74
                 obtain ⟨y244, hy244⟩ : ∃ y_ : List (S39), y_ = (y237 ++ y240) := ⟨_, rfl⟩
                 replace H : (if 0 ≤ (wrap64 (x12_4 + 1)) then (if (wrap64 (x12_4 + 1)) ≤ (l0_1.length : Int) then ((some (l0_1.drop ((wrap64 (x12_4 + 1)) : Int).toNat : List (S39))).bind fun y247 => (if y244.length + y247.length < 1466015503701 then ((gap_Least.f a0_0 (y244 ++ y247)).bind fun bt254 => (if bt254.2.2.2.2 = 0 then (if bt254.1 ≤ t219 then ((gap_Asked.f a0_0 l0_1).bind fun t262 => (some (t262 == 21))) else (some false)) else (some false))) else (none))) else (none)) else (none)) = some r := by first | (rw [hy244]; with_reducible exact H) | (have H2_ := (Option.bind_some _ _).symm.trans H; rw [hy244]; with_reducible exact H2_) | (have H2_ := (Option.bind_some _ _).symm.trans H; with_reducible exact H2_) | with_reducible exact H | (rw [hy244]; exact H) | exact H
                 have Ny244 := Aside0.mk hy244
                 clear hy244
                 obtain ⟨ji75, hji75⟩ : ∃ j_ : Int, (wrap64 (x12_4 + 1)) = j_ := ⟨_, rfl⟩
                 replace H : (if 0 ≤ (ji75) then (if (ji75) ≤ (l0_1.length : Int) then ((some (l0_1.drop ((ji75) : Int).toNat : List (S39))).bind fun y247 => (if y244.length + y247.length < 1466015503701 then ((gap_Least.f a0_0 (y244 ++ y247)).bind fun bt254 => (if bt254.2.2.2.2 = 0 then (if bt254.1 ≤ t219 then ((gap_Asked.f a0_0 l0_1).bind fun t262 => (some (t262 == 21))) else (some false)) else (some false))) else (none))) else (none)) else (none)) = some r := by first | (rw [hji75] at H; exact H) | (simp only [hji75] at H ⊢; exact H)
                 have hji75w : (IntKind.i64.wrap (x12_4 + 1)) = ji75 := (i64_w _).trans hji75
                 by_cases c76 : 0 ≤ (ji75)
                 ·rw [if_pos c76] at H
                  have c76b0 := eq_true c76
                  have c76b1 : decide (0 ≤ (ji75)) = true := decide_eq_true c76
                  clear c76
                  by_cases c77 : (ji75) ≤ (l0_1.length : Int)
                  ·rw [if_pos c77] at H
                   have c77b0 := eq_true c77
                   have c77b1 : decide ((ji75) ≤ (l0_1.length : Int)) = true := decide_eq_true c77
                   clear c77
                   obtain ⟨y247, hy247⟩ : ∃ y_ : List (S39), y_ = (l0_1.drop ((ji75) : Int).toNat) := ⟨_, rfl⟩
                   replace H : (if y244.length + y247.length < 1466015503701 then ((gap_Least.f a0_0 (y244 ++ y247)).bind fun bt254 => (if bt254.2.2.2.2 = 0 then (if bt254.1 ≤ t219 then ((gap_Asked.f a0_0 l0_1).bind fun t262 => (some (t262 == 21))) else (some false)) else (some false))) else (none)) = some r := by first | (rw [hy247]; with_reducible exact H) | (have H2_ := (Option.bind_some _ _).symm.trans H; rw [hy247]; with_reducible exact H2_) | (have H2_ := (Option.bind_some _ _).symm.trans H; with_reducible exact H2_) | with_reducible exact H | (rw [hy247]; exact H) | exact H
                   have Ny247 := Aside0.mk hy247
                   clear hy247
                   by_cases c78 : y244.length + y247.length < 1466015503701
                   ·rw [if_pos c78] at H
                    have LMc78 := Aside0.mk c78
                    clear c78
                    obtain ⟨y251, hy251⟩ : ∃ y_ : List (S39), y_ = (y244 ++ y247) := ⟨_, rfl⟩
                    replace H : ((gap_Least.f a0_0 y251).bind fun bt254 => (if bt254.2.2.2.2 = 0 then (if bt254.1 ≤ t219 then ((gap_Asked.f a0_0 l0_1).bind fun t262 => (some (t262 == 21))) else (some false)) else (some false))) = some r := by first | (rw [hy251]; with_reducible exact H) | (have H2_ := (Option.bind_some _ _).symm.trans H; rw [hy251]; with_reducible exact H2_) | (have H2_ := (Option.bind_some _ _).symm.trans H; with_reducible exact H2_) | with_reducible exact H | (rw [hy251]; exact H) | exact H
                    have Ny251 := Aside0.mk hy251
                    clear hy251
                    replace H := Option.bind_eq_some_iff.mp H
                    obtain ⟨⟨t254, t255, t256, t257, t260⟩, A790, H⟩ := H
                    replace H : (if t260 = 0 then (if t254 ≤ t219 then ((gap_Asked.f a0_0 l0_1).bind fun t262 => (some (t262 == 21))) else (some false)) else (some false)) = some r := H
                    have A79 := Aside0.mk A790
                    clear A790
                    by_cases c80 : t260 = 0
                    ·rw [if_pos c80] at H
                     have c80b0 : (t260 == 0) = true := beq_iff_eq.mpr c80
                     have c80b1 : (t260 != 0) = false := bne_eq_false_iff_eq.mpr c80
                     clear c80
                     by_cases c81 : t254 ≤ t219
                     ·rw [if_pos c81] at H
                      have c81b0 : decide (t254 ≤ t219) = true := decide_eq_true c81
                      clear c81
                      replace H := Option.bind_eq_some_iff.mp H
                      obtain ⟨t262, A820, H⟩ := H
                      replace H : (some (t262 == 21)) = some r := H
                      have A82 := Aside0.mk A820
                      clear A820
                      obtain rfl := Option.some.inj H
                      have hnb83 := NB213_218.out
                      have hnc83 := NB218_213.out
                      have hnb84 := NB213_226.out
                      have hnc84 := NB226_213.out
                      have hnb85 := NB213_234.out
                      have hnc85 := NB234_213.out
                      have hcz86_0 : wr.cell? ⟨gb213, 0, none⟩ = some (.int .i64 a0_0) := (z23_ BK213.out 0).trans rfl
                      have hcz86_1 : wr.cell? ⟨gb213, 1, none⟩ = some (.slice A0_1 l0_1.length c0_1) := (z23_ BK213.out 1).trans rfl
                      have hfz86_0 := blk_frozen BK213.out 0
                      have hfz86_1 := blk_frozen BK213.out 1
                      try go_wp2
                      have n0_ := Aside0.mk (z8_ HO_227002.out)
                      have n1_ := Aside0.mk (z8_ HO_235002.out)
                      have n2_ := Aside0.mk (z1_ BK213.out)
                      have n3_ := Aside0.mk (z1_ BK218.out)
                      have n4_ := Aside0.mk (z1_ BK226.out)
                      have n5_ := Aside0.mk (z1_ BK234.out)
                      have n6_ := Aside0.mk (z5_ HB.out)
                      clear HO_227002
                      clear HO_235002
                      clear BK213
                      clear BK218
                      clear BK226
                      clear BK234
                      clear HB
                      have HO_227002 := n0_
                      have HO_235002 := n1_
                      have BK213 := n2_
                      have BK218 := n3_
                      have BK226 := n4_
                      have BK234 := n5_
                      have HB := n6_
                      clear n0_ n1_ n2_ n3_ n4_ n5_ n6_
                      have q88 : (x12_4 : Int) ≤ ((l0_1.length : Int) : Int) := of_decide_eq_true (by first | (with_reducible assumption) | assumption)
                      obtain ⟨i088, hi088, _, hsz88, _⟩ := info_parts info39
                      have hroom88 : l0_1.length ≤ c0_1 := HC0_1.out
                      have hC88 : Kd.C k39 _ A0_1 l0_1.length l0_1 := HR0_1.out
                      have hcut88 := cut_to (P := Tryd.prog) 22 39 .i64 Tryd.underlying22 hi088 A0_1 l0_1.length c0_1 x12_4 (of_decide_eq_true (by first | (with_reducible assumption) | assumption)) q88 hroom88
                      have hr88 := Kd.C_take (m := (x12_4 : Int).toNat) hC88 (by omega)
                      have hy88 : y240.length = (x12_4 : Int).toNat := (by rw [Ny240.out, List.length_take]; omega)
                      rw [← Ny240.out] at hr88
                      rw [← hy88] at hcut88
                      have HR243 := Aside0.mk hr88
                      have HC243 := Aside0.mk (show y240.length ≤ c0_1 from by omega)
                      clear hr88 hC88 hroom88 hi088 hsz88
                      have KY88 := Aside0.mk hy88
                      clear hy88
                      replace q88 := eq_true q88
                      have q89 : ((ji75) : Int) ≤ ((l0_1.length : Int) : Int) := of_decide_eq_true (by first | (with_reducible assumption) | assumption)
                      obtain ⟨i089, hi089, _, hsz89, _⟩ := info_parts info39
                      have hroom89 : l0_1.length ≤ c0_1 := HC0_1.out
                      have hC89 : Kd.C k39 _ A0_1 l0_1.length l0_1 := HR0_1.out
                      have q089 : (0 : Int) ≤ ((ji75) : Int) := of_decide_eq_true (by first | (with_reducible assumption) | assumption)
                      have hcut89 := cut_from (P := Tryd.prog) 22 39 .i64 Tryd.underlying22 hi089 11 hsz89 A0_1 l0_1.length c0_1 (ji75) q089 q89
                      have hr89 := Kd.C_drop (m := ((ji75) : Int).toNat) (c := c0_1) hC89 (by omega) hroom89
                      obtain ⟨A89, hA89⟩ : ∃ A1, A1 = (if c0_1 = ((ji75) : Int).toNat then A0_1 else (A0_1 : Option Addr).map (·.add (((ji75) : Int).toNat * 11))) := ⟨_, rfl⟩
                      obtain ⟨c89, hc89⟩ : ∃ c1, c1 = c0_1 - ((ji75) : Int).toNat := ⟨_, rfl⟩
                      have hy89 : y247.length = l0_1.length - ((ji75) : Int).toNat := (by rw [Ny247.out, List.length_drop] <;> omega)
                      rw [show (l0_1).drop ((ji75) : Int).toNat = y247 from Ny247.out.symm] at hr89
                      replace hr89 : Kd.C k39 _ A89 y247.length y247 := (by rw [hA89]; exact hr89)
                      rw [← hy89, ← hA89, ← hc89] at hcut89
                      have HR250 := Aside0.mk hr89
                      have HC250 := Aside0.mk (show y247.length ≤ c89 from by rw [hy89, hc89]; exact Nat.sub_le_sub_right hroom89 _)
                      clear hr89 hC89 hroom89 hi089 hsz89 hc89
                      have KY89 := Aside0.mk hy89
                      have KA89 := Aside0.mk hA89
                      clear hy89 hA89
                      replace q89 := eq_true q89
                      refine start_ (n := 24) (S := fun w' => w'.cell? ⟨gb213, 0, none⟩ = some (.int .i64 a0_0) ∧ w'.cell? ⟨gb213, 1, none⟩ = some (.slice A0_1 l0_1.length c0_1)) (ds := []) #[false, false, false, false, false, false, false, false, false, false, false, false, false, false, false, false, false, false, false, false, false, false, false, false] (by kernel_rfl) rfl rfl ⟨(z23_ BK213.out 0).trans rfl, (z23_ BK213.out 1).trans rfl⟩ (fun hHeld => ?_); refine with_tabW pendulumlaw21_GapBursts.tab20 pendulumlaw21_GapBursts.bits20 (fun HT_ HW_ => ?_)
                      generalize wr.drew = w87 at HO_227002 HO_235002 BK213 BK218 BK226 BK234 HB HR243 HR250 hHeld ⊢
                      refine pure_ (i := 0) (N := some 96) (v := ?_) (a' := ?_) #[true, false, false, false, false, false, false, false, false, false, false, false, false, false, false, false, false, false, false, false, false, false, false, false] rfl rfl (any_of HT_.out (by kernel_rfl)) (fun _ _ _ h => h) (Or.inl ⟨by rfl, ?_⟩) ?_ ?_
                      rotate_left
                      ·intro w'
                       go_simp
                       with_reducible rfl
                      rotate_left
                      ·simp only [Act.put, z15_, z16_, z17_, i64_w, i32_w]
                       rfl
                      refine pure_ (i := 3) (N := some 99) (v := ?_) (a' := ?_) #[true, false, false, true, false, false, false, false, false, false, false, false, false, false, false, false, false, false, false, false, false, false, false, false] rfl rfl (any_of HT_.out (by kernel_rfl)) (fun _ _ _ h => h) (Or.inl ⟨by rfl, ?_⟩) ?_ ?_
                      rotate_left
                      ·intro w'
                       go_simp
                       with_reducible rfl
                      rotate_left
                      ·simp only [Act.put, z15_, z16_, z17_, i64_w, i32_w]
                       rfl
                      refine pure_ (i := 5) (N := some 101) (v := ?_) (a' := ?_) #[true, false, false, true, false, true, false, false, false, false, false, false, false, false, false, false, false, false, false, false, false, false, false, false] rfl rfl (any_of HT_.out (by kernel_rfl)) (fun _ _ _ h => h) (Or.inl ⟨by rfl, ?_⟩) ?_ ?_
                      rotate_left
                      ·intro w'
                       go_simp
                       with_reducible rfl
                      rotate_left
                      ·simp only [Act.put, z15_, z16_, z17_, i64_w, i32_w]
                       rfl
                      refine pure_ (i := 8) (N := some 104) (v := ?_) (a' := ?_) #[true, false, false, true, false, true, false, false, true, false, false, false, false, false, false, false, false, false, false, false, false, false, false, false] rfl rfl (any_of HT_.out (by kernel_rfl)) (fun _ _ _ h => h) (Or.inl ⟨by rfl, ?_⟩) ?_ ?_
                      rotate_left
                      ·intro w'
                       go_simp
                       with_reducible rfl
                      rotate_left
                      ·simp only [Act.put, z15_, z16_, z17_, i64_w, i32_w]
                       rfl
                      refine pure_ (i := 10) (N := some 106) (v := ?_) (a' := ?_) #[true, false, false, true, false, true, false, false, true, false, true, false, false, false, false, false, false, false, false, false, false, false, false, false] rfl rfl (any_of HT_.out (by kernel_rfl)) (fun _ _ _ h => h) (Or.inl ⟨by rfl, ?_⟩) ?_ ?_
                      rotate_left
                      ·intro w'
                       go_simp
                       with_reducible rfl
                      rotate_left
                      ·simp only [Act.put, z15_, z16_, z17_, i64_w, i32_w]
                       rfl
                      refine pure_ (i := 11) (N := some 107) (v := ?_) (a' := ?_) #[true, false, false, true, false, true, false, false, true, false, true, true, false, false, false, false, false, false, false, false, false, false, false, false] rfl rfl (any_of HT_.out (by kernel_rfl)) (fun _ _ _ h => h) (Or.inl ⟨by rfl, ?_⟩) ?_ ?_
                      rotate_left
                      ·intro w'
                       go_simp
                       with_reducible rfl
                      rotate_left
                      ·simp only [Act.put, z15_, z16_, z17_, i64_w, i32_w]
                       rfl
                      refine take_ (i := 1) (N := some 97) (v := ?_) (a' := ?_) #[true, true, false, true, false, true, false, false, true, false, true, true, false, false, false, false, false, false, false, false, false, false, false, false] rfl rfl (take_ofW HT_.out HW_.out (by kernel_rfl)) (fun _ _ _ h => h) (Or.inl ⟨by rfl, ?_⟩) hHeld ?_ ?_
                      rotate_left
                      ·rintro w' ⟨s0, s1⟩
                       go_simp
                       with_reducible rfl
                      rotate_left
                      ·simp only [Act.put, z15_, z16_, z17_, i64_w, i32_w]
                       rfl
                      refine take_ (i := 4) (N := some 100) (v := ?_) (a' := ?_) #[true, true, false, true, true, true, false, false, true, false, true, true, false, false, false, false, false, false, false, false, false, false, false, false] rfl rfl (take_ofW HT_.out HW_.out (by kernel_rfl)) (fun _ _ _ h => h) (Or.inl ⟨by rfl, ?_⟩) hHeld ?_ ?_
                      rotate_left
                      ·rintro w' ⟨s0, s1⟩
                       go_simp
                       with_reducible rfl
                      rotate_left
                      ·simp only [Act.put, z15_, z16_, z17_, i64_w, i32_w]
                       rfl
                      refine pure_ (i := 6) (N := some 102) (v := ?_) (a' := ?_) #[true, true, false, true, true, true, true, false, true, false, true, true, false, false, false, false, false, false, false, false, false, false, false, false] rfl rfl (any_of HT_.out (by kernel_rfl)) (fun _ _ _ h => h) (Or.inl ⟨by rfl, ?_⟩) ?_ ?_
                      rotate_left
                      ·intro w'
                       go_simp
                       with_reducible rfl
                      rotate_left
                      ·simp only [Act.put, z15_, z16_, z17_, i64_w, i32_w]
                       rfl
                      refine take_ (i := 9) (N := some 105) (v := ?_) (a' := ?_) #[true, true, false, true, true, true, true, false, true, true, true, true, false, false, false, false, false, false, false, false, false, false, false, false] rfl rfl (take_ofW HT_.out HW_.out (by kernel_rfl)) (fun _ _ _ h => h) (Or.inl ⟨by rfl, ?_⟩) hHeld ?_ ?_
                      rotate_left
                      ·rintro w' ⟨s0, s1⟩
                       go_simp
                       with_reducible rfl
                      rotate_left
                      ·simp only [Act.put, z15_, z16_, z17_, i64_w, i32_w]
                       rfl
                      refine pure_ (i := 12) (N := some 108) (v := ?_) (a' := ?_) #[true, true, false, true, true, true, true, false, true, true, true, true, true, false, false, false, false, false, false, false, false, false, false, false] rfl rfl (any_of HT_.out (by kernel_rfl)) (fun _ _ _ h => h) (Or.inl ⟨by rfl, ?_⟩) ?_ ?_
                      rotate_left
                      ·intro w'
                       go_simp
                       with_reducible rfl
                      rotate_left
                      ·simp only [Act.put, z15_, z16_, z17_, i64_w, i32_w]
                       rfl
                      refine join_ (σ := Value × Value × Value × Value × Nat) 3 #[true, true, true, true, true, true, true, true, true, true, true, true, true, true, true, true, true, true, true, true, true, false, false, false] (fun s_ => [(98, s_.1), (103, s_.2.1), (109, s_.2.2.1), (111, .tuple #[.int .i64 t254, .agg #[.bool t255, .int .i64 t256, s_.2.2.2.1], .int .i64 t260]), (15, .pointer (some ⟨s_.2.2.2.2, 0, none⟩)), (110, .agg #[.int .i64 a0_0, s_.2.2.1]), (95, .tuple #[.int .i64 t254, .agg #[.bool t255, .int .i64 t256, s_.2.2.2.1], .int .i64 t260]), (112, .int .i64 t254), (113, .agg #[.bool t255, .int .i64 t256, s_.2.2.2.1]), (114, .int .i64 t260)]) (fun s_ w' => (w'.cell? ⟨gb213, 0, none⟩ = some (.int .i64 a0_0) ∧ w'.cell? ⟨gb213, 1, none⟩ = some (.slice A0_1 l0_1.length c0_1)) ∧ (Kd.R k39 39 w' w.heap.size (fun _ => True) s_.2.2.1 y251) ∧ (Kd.R (Kd.int .i64) 3 w' w.heap.size (fun k_ => some k_ ≠ (.slice Ao41 t222.length co41 : Value).ownBlock ∧ some k_ ≠ (.slice Ao49 t230.length co49 : Value).ownBlock) s_.2.2.2.1 t257) ∧ (Kd.R (Kd.int .i64) 3 w' w.heap.size (fun k_ => some k_ ≠ (s_.2.2.2.1 : Value).ownBlock ∧ some k_ ≠ (.slice Ao49 t230.length co49 : Value).ownBlock) (.slice Ao41 t222.length co41) t222) ∧ (Kd.R (Kd.int .i64) 3 w' w.heap.size (fun k_ => some k_ ≠ (s_.2.2.2.1 : Value).ownBlock ∧ some k_ ≠ (.slice Ao41 t222.length co41 : Value).ownBlock) (.slice Ao49 t230.length co49) t230) ∧ (w'.heap[gb213]? = some (.cells #[.int .i64 a0_0, .slice A0_1 l0_1.length c0_1] 24 (0, 0))) ∧ (w'.heap[gb218]? = some (.cells #[.int .i64 x219000_21, .slice A0_1 l0_1.length c0_1] 24 (0, 0))) ∧ (w'.heap[gb226]? = some (.cells #[.bool t220, .int .i64 t221, .slice Ao41 t222.length co41] 30 (0, 0))) ∧ (w'.heap[gb234]? = some (.cells #[.bool t228, .int .i64 t229, .slice Ao49 t230.length co49] 30 (0, 0))) ∧ (w'.heap[s_.2.2.2.2]? = some (.cells #[.bool false, .int .i64 0, .slice none 0 0] 30 (0, 0))) ∧ (w.heap.size ≤ s_.2.2.2.2) ∧ (w.heap.size ≤ s_.2.2.2.2) ∧ (gb213 ≠ s_.2.2.2.2) ∧ (s_.2.2.2.2 ≠ gb213) ∧ (gb218 ≠ s_.2.2.2.2) ∧ (s_.2.2.2.2 ≠ gb218) ∧ (gb226 ≠ s_.2.2.2.2) ∧ (s_.2.2.2.2 ≠ gb226) ∧ (gb234 ≠ s_.2.2.2.2) ∧ (s_.2.2.2.2 ≠ gb234) ∧ (Below w.heap.size w w')) ?_ ?_
                      rotate_left
                      ·intro hJ2_7_13_15_20
                       refine join_ (σ := Value × Value × Value × Value) 4 #[true, true, true, true, true, true, true, true, true, true, true, true, true, true, true, true, true, true, true, true, false, false, false, false] (fun s_ => [(98, s_.1), (103, s_.2.1), (109, s_.2.2.1), (111, .tuple #[.int .i64 t254, .agg #[.bool t255, .int .i64 t256, s_.2.2.2], .int .i64 t260]), (110, .agg #[.int .i64 a0_0, s_.2.2.1]), (95, .tuple #[.int .i64 t254, .agg #[.bool t255, .int .i64 t256, s_.2.2.2], .int .i64 t260]), (112, .int .i64 t254), (113, .agg #[.bool t255, .int .i64 t256, s_.2.2.2]), (114, .int .i64 t260)]) (fun s_ w' => (w'.cell? ⟨gb213, 0, none⟩ = some (.int .i64 a0_0) ∧ w'.cell? ⟨gb213, 1, none⟩ = some (.slice A0_1 l0_1.length c0_1)) ∧ (Kd.R k39 39 w' w.heap.size (fun _ => True) s_.2.2.1 y251) ∧ (Kd.R (Kd.int .i64) 3 w' w.heap.size (fun k_ => some k_ ≠ (.slice Ao41 t222.length co41 : Value).ownBlock ∧ some k_ ≠ (.slice Ao49 t230.length co49 : Value).ownBlock) s_.2.2.2 t257) ∧ (Kd.R (Kd.int .i64) 3 w' w.heap.size (fun k_ => some k_ ≠ (s_.2.2.2 : Value).ownBlock ∧ some k_ ≠ (.slice Ao49 t230.length co49 : Value).ownBlock) (.slice Ao41 t222.length co41) t222) ∧ (Kd.R (Kd.int .i64) 3 w' w.heap.size (fun k_ => some k_ ≠ (s_.2.2.2 : Value).ownBlock ∧ some k_ ≠ (.slice Ao41 t222.length co41 : Value).ownBlock) (.slice Ao49 t230.length co49) t230) ∧ (w'.heap[gb213]? = some (.cells #[.int .i64 a0_0, .slice A0_1 l0_1.length c0_1] 24 (0, 0))) ∧ (w'.heap[gb218]? = some (.cells #[.int .i64 x219000_21, .slice A0_1 l0_1.length c0_1] 24 (0, 0))) ∧ (w'.heap[gb226]? = some (.cells #[.bool t220, .int .i64 t221, .slice Ao41 t222.length co41] 30 (0, 0))) ∧ (w'.heap[gb234]? = some (.cells #[.bool t228, .int .i64 t229, .slice Ao49 t230.length co49] 30 (0, 0))) ∧ (Below w.heap.size w w')) ?_ ?_
                       rotate_left
                       ·intro hJ2_7_13_15
                        refine join_ (σ := Value × Value × Value × Nat) 8 #[true, true, true, true, true, true, true, true, true, true, true, true, true, true, true, false, false, false, false, false, true, false, false, false] (fun s_ => [(98, s_.1), (103, s_.2.1), (109, s_.2.2.1), (15, .pointer (some ⟨s_.2.2.2, 0, none⟩)), (110, .agg #[.int .i64 a0_0, s_.2.2.1])]) (fun s_ w' => (w'.cell? ⟨gb213, 0, none⟩ = some (.int .i64 a0_0) ∧ w'.cell? ⟨gb213, 1, none⟩ = some (.slice A0_1 l0_1.length c0_1)) ∧ (Kd.R k39 39 w' w.heap.size (fun _ => True) s_.2.2.1 y251) ∧ (Kd.R (Kd.int .i64) 3 w' w.heap.size (fun k_ => some k_ ≠ (.slice Ao49 t230.length co49 : Value).ownBlock) (.slice Ao41 t222.length co41) t222) ∧ (Kd.R (Kd.int .i64) 3 w' w.heap.size (fun k_ => some k_ ≠ (.slice Ao41 t222.length co41 : Value).ownBlock) (.slice Ao49 t230.length co49) t230) ∧ (w'.heap[gb213]? = some (.cells #[.int .i64 a0_0, .slice A0_1 l0_1.length c0_1] 24 (0, 0))) ∧ (w'.heap[gb218]? = some (.cells #[.int .i64 x219000_21, .slice A0_1 l0_1.length c0_1] 24 (0, 0))) ∧ (w'.heap[gb226]? = some (.cells #[.bool t220, .int .i64 t221, .slice Ao41 t222.length co41] 30 (0, 0))) ∧ (w'.heap[gb234]? = some (.cells #[.bool t228, .int .i64 t229, .slice Ao49 t230.length co49] 30 (0, 0))) ∧ (w'.heap[s_.2.2.2]? = some (.cells #[.bool false, .int .i64 0, .slice none 0 0] 30 (0, 0))) ∧ (w.heap.size ≤ s_.2.2.2) ∧ (w.heap.size ≤ s_.2.2.2) ∧ (gb213 ≠ s_.2.2.2) ∧ (s_.2.2.2 ≠ gb213) ∧ (gb218 ≠ s_.2.2.2) ∧ (s_.2.2.2 ≠ gb218) ∧ (gb226 ≠ s_.2.2.2) ∧ (s_.2.2.2 ≠ gb226) ∧ (gb234 ≠ s_.2.2.2) ∧ (s_.2.2.2 ≠ gb234) ∧ (Below w.heap.size w w')) ?_ ?_
                        rotate_left
                        ·intro hJ2_7_13_20
                         refine join_ (σ := Value × Value × Value) 9 #[true, true, true, true, true, true, true, true, true, true, true, true, true, true, true, false, false, false, false, false, false, false, false, false] (fun s_ => [(98, s_.1), (103, s_.2.1), (109, s_.2.2), (110, .agg #[.int .i64 a0_0, s_.2.2])]) (fun s_ w' => (w'.cell? ⟨gb213, 0, none⟩ = some (.int .i64 a0_0) ∧ w'.cell? ⟨gb213, 1, none⟩ = some (.slice A0_1 l0_1.length c0_1)) ∧ (Kd.R k39 39 w' w.heap.size (fun _ => True) s_.2.2 y251) ∧ (Kd.R (Kd.int .i64) 3 w' w.heap.size (fun k_ => some k_ ≠ (.slice Ao49 t230.length co49 : Value).ownBlock) (.slice Ao41 t222.length co41) t222) ∧ (Kd.R (Kd.int .i64) 3 w' w.heap.size (fun k_ => some k_ ≠ (.slice Ao41 t222.length co41 : Value).ownBlock) (.slice Ao49 t230.length co49) t230) ∧ (w'.heap[gb213]? = some (.cells #[.int .i64 a0_0, .slice A0_1 l0_1.length c0_1] 24 (0, 0))) ∧ (w'.heap[gb218]? = some (.cells #[.int .i64 x219000_21, .slice A0_1 l0_1.length c0_1] 24 (0, 0))) ∧ (w'.heap[gb226]? = some (.cells #[.bool t220, .int .i64 t221, .slice Ao41 t222.length co41] 30 (0, 0))) ∧ (w'.heap[gb234]? = some (.cells #[.bool t228, .int .i64 t229, .slice Ao49 t230.length co49] 30 (0, 0))) ∧ (Below w.heap.size w w')) ?_ ?_
                         rotate_left
                         ·intro hJ2_7_13
                          refine join_ (σ := Value × Value × Nat) 10 #[true, true, true, true, true, true, true, true, true, true, true, true, true, false, false, false, false, false, false, false, true, false, false, false] (fun s_ => [(98, s_.1), (103, s_.2.1), (15, .pointer (some ⟨s_.2.2, 0, none⟩))]) (fun s_ w' => (w'.cell? ⟨gb213, 0, none⟩ = some (.int .i64 a0_0) ∧ w'.cell? ⟨gb213, 1, none⟩ = some (.slice A0_1 l0_1.length c0_1)) ∧ (Kd.R k39 39 w' w.heap.size (fun _ => True) s_.2.1 y244) ∧ (Kd.R (Kd.int .i64) 3 w' w.heap.size (fun k_ => some k_ ≠ (.slice Ao49 t230.length co49 : Value).ownBlock) (.slice Ao41 t222.length co41) t222) ∧ (Kd.R (Kd.int .i64) 3 w' w.heap.size (fun k_ => some k_ ≠ (.slice Ao41 t222.length co41 : Value).ownBlock) (.slice Ao49 t230.length co49) t230) ∧ (w'.heap[gb213]? = some (.cells #[.int .i64 a0_0, .slice A0_1 l0_1.length c0_1] 24 (0, 0))) ∧ (w'.heap[gb218]? = some (.cells #[.int .i64 x219000_21, .slice A0_1 l0_1.length c0_1] 24 (0, 0))) ∧ (w'.heap[gb226]? = some (.cells #[.bool t220, .int .i64 t221, .slice Ao41 t222.length co41] 30 (0, 0))) ∧ (w'.heap[gb234]? = some (.cells #[.bool t228, .int .i64 t229, .slice Ao49 t230.length co49] 30 (0, 0))) ∧ (w'.heap[s_.2.2]? = some (.cells #[.bool false, .int .i64 0, .slice none 0 0] 30 (0, 0))) ∧ (w.heap.size ≤ s_.2.2) ∧ (w.heap.size ≤ s_.2.2) ∧ (gb213 ≠ s_.2.2) ∧ (s_.2.2 ≠ gb213) ∧ (gb218 ≠ s_.2.2) ∧ (s_.2.2 ≠ gb218) ∧ (gb226 ≠ s_.2.2) ∧ (s_.2.2 ≠ gb226) ∧ (gb234 ≠ s_.2.2) ∧ (s_.2.2 ≠ gb234) ∧ (Below w.heap.size w w')) ?_ ?_
                          rotate_left
                          ·intro hJ2_7_20
                           refine join_ (σ := Value × Value) 11 #[true, true, true, true, true, true, true, true, true, true, true, true, true, false, false, false, false, false, false, false, false, false, false, false] (fun s_ => [(98, s_.1), (103, s_.2)]) (fun s_ w' => (w'.cell? ⟨gb213, 0, none⟩ = some (.int .i64 a0_0) ∧ w'.cell? ⟨gb213, 1, none⟩ = some (.slice A0_1 l0_1.length c0_1)) ∧ (Kd.R k39 39 w' w.heap.size (fun _ => True) s_.2 y244) ∧ (Kd.R (Kd.int .i64) 3 w' w.heap.size (fun k_ => some k_ ≠ (.slice Ao49 t230.length co49 : Value).ownBlock) (.slice Ao41 t222.length co41) t222) ∧ (Kd.R (Kd.int .i64) 3 w' w.heap.size (fun k_ => some k_ ≠ (.slice Ao41 t222.length co41 : Value).ownBlock) (.slice Ao49 t230.length co49) t230) ∧ (w'.heap[gb213]? = some (.cells #[.int .i64 a0_0, .slice A0_1 l0_1.length c0_1] 24 (0, 0))) ∧ (w'.heap[gb218]? = some (.cells #[.int .i64 x219000_21, .slice A0_1 l0_1.length c0_1] 24 (0, 0))) ∧ (w'.heap[gb226]? = some (.cells #[.bool t220, .int .i64 t221, .slice Ao41 t222.length co41] 30 (0, 0))) ∧ (w'.heap[gb234]? = some (.cells #[.bool t228, .int .i64 t229, .slice Ao49 t230.length co49] 30 (0, 0))) ∧ (Below w.heap.size w w')) ?_ ?_
                           rotate_left
                           ·intro hJ2_7
                            refine join_ (σ := Value × Nat) 11 #[true, true, true, true, true, true, true, false, true, true, true, true, true, false, false, false, false, false, false, false, true, false, false, false] (fun s_ => [(98, s_.1), (15, .pointer (some ⟨s_.2, 0, none⟩))]) (fun s_ w' => (w'.cell? ⟨gb213, 0, none⟩ = some (.int .i64 a0_0) ∧ w'.cell? ⟨gb213, 1, none⟩ = some (.slice A0_1 l0_1.length c0_1)) ∧ (Kd.R k39 39 w' w.heap.size (fun _ => True) s_.1 y237) ∧ (Kd.R (Kd.int .i64) 3 w' w.heap.size (fun k_ => some k_ ≠ (.slice Ao49 t230.length co49 : Value).ownBlock) (.slice Ao41 t222.length co41) t222) ∧ (Kd.R (Kd.int .i64) 3 w' w.heap.size (fun k_ => some k_ ≠ (.slice Ao41 t222.length co41 : Value).ownBlock) (.slice Ao49 t230.length co49) t230) ∧ (w'.heap[gb213]? = some (.cells #[.int .i64 a0_0, .slice A0_1 l0_1.length c0_1] 24 (0, 0))) ∧ (w'.heap[gb218]? = some (.cells #[.int .i64 x219000_21, .slice A0_1 l0_1.length c0_1] 24 (0, 0))) ∧ (w'.heap[gb226]? = some (.cells #[.bool t220, .int .i64 t221, .slice Ao41 t222.length co41] 30 (0, 0))) ∧ (w'.heap[gb234]? = some (.cells #[.bool t228, .int .i64 t229, .slice Ao49 t230.length co49] 30 (0, 0))) ∧ (w'.heap[s_.2]? = some (.cells #[.bool false, .int .i64 0, .slice none 0 0] 30 (0, 0))) ∧ (w.heap.size ≤ s_.2) ∧ (w.heap.size ≤ s_.2) ∧ (gb213 ≠ s_.2) ∧ (s_.2 ≠ gb213) ∧ (gb218 ≠ s_.2) ∧ (s_.2 ≠ gb218) ∧ (gb226 ≠ s_.2) ∧ (s_.2 ≠ gb226) ∧ (gb234 ≠ s_.2) ∧ (s_.2 ≠ gb234) ∧ (Below w.heap.size w w')) ?_ ?_
                            rotate_left
                            ·intro hJ2_20
                             refine join_ (σ := Value) 12 #[true, true, true, true, true, true, true, false, true, true, true, true, true, false, false, false, false, false, false, false, false, false, false, false] (fun s_ => [(98, s_)]) (fun s_ w' => (w'.cell? ⟨gb213, 0, none⟩ = some (.int .i64 a0_0) ∧ w'.cell? ⟨gb213, 1, none⟩ = some (.slice A0_1 l0_1.length c0_1)) ∧ (Kd.R k39 39 w' w.heap.size (fun _ => True) s_ y237) ∧ (Kd.R (Kd.int .i64) 3 w' w.heap.size (fun k_ => some k_ ≠ (.slice Ao49 t230.length co49 : Value).ownBlock) (.slice Ao41 t222.length co41) t222) ∧ (Kd.R (Kd.int .i64) 3 w' w.heap.size (fun k_ => some k_ ≠ (.slice Ao41 t222.length co41 : Value).ownBlock) (.slice Ao49 t230.length co49) t230) ∧ (w'.heap[gb213]? = some (.cells #[.int .i64 a0_0, .slice A0_1 l0_1.length c0_1] 24 (0, 0))) ∧ (w'.heap[gb218]? = some (.cells #[.int .i64 x219000_21, .slice A0_1 l0_1.length c0_1] 24 (0, 0))) ∧ (w'.heap[gb226]? = some (.cells #[.bool t220, .int .i64 t221, .slice Ao41 t222.length co41] 30 (0, 0))) ∧ (w'.heap[gb234]? = some (.cells #[.bool t228, .int .i64 t229, .slice Ao49 t230.length co49] 30 (0, 0))) ∧ (Below w.heap.size w w')) ?_ ?_
                             rotate_left
                             ·intro hJ2
                              refine join_ (σ := Nat) 12 #[true, true, false, true, true, true, true, false, true, true, true, true, true, false, false, false, false, false, false, false, true, false, false, false] (fun s_ => [(15, .pointer (some ⟨s_, 0, none⟩))]) (fun s_ w' => (w'.cell? ⟨gb213, 0, none⟩ = some (.int .i64 a0_0) ∧ w'.cell? ⟨gb213, 1, none⟩ = some (.slice A0_1 l0_1.length c0_1)) ∧ (Kd.R (Kd.int .i64) 3 w' w.heap.size (fun k_ => some k_ ≠ (.slice Ao49 t230.length co49 : Value).ownBlock) (.slice Ao41 t222.length co41) t222) ∧ (Kd.R (Kd.int .i64) 3 w' w.heap.size (fun k_ => some k_ ≠ (.slice Ao41 t222.length co41 : Value).ownBlock) (.slice Ao49 t230.length co49) t230) ∧ (w'.heap[gb213]? = some (.cells #[.int .i64 a0_0, .slice A0_1 l0_1.length c0_1] 24 (0, 0))) ∧ (w'.heap[gb218]? = some (.cells #[.int .i64 x219000_21, .slice A0_1 l0_1.length c0_1] 24 (0, 0))) ∧ (w'.heap[gb226]? = some (.cells #[.bool t220, .int .i64 t221, .slice Ao41 t222.length co41] 30 (0, 0))) ∧ (w'.heap[gb234]? = some (.cells #[.bool t228, .int .i64 t229, .slice Ao49 t230.length co49] 30 (0, 0))) ∧ (w'.heap[s_]? = some (.cells #[.bool false, .int .i64 0, .slice none 0 0] 30 (0, 0))) ∧ (w.heap.size ≤ s_) ∧ (w.heap.size ≤ s_) ∧ (gb213 ≠ s_) ∧ (s_ ≠ gb213) ∧ (gb218 ≠ s_) ∧ (s_ ≠ gb218) ∧ (gb226 ≠ s_) ∧ (s_ ≠ gb226) ∧ (gb234 ≠ s_) ∧ (s_ ≠ gb234) ∧ (Below w.heap.size w w')) ?_ ?_
                              rotate_left
                              ·intro hJ20
                               refine two_ (i := 2) (j := 20) (Ni := some 98) (Nj := some 15) #[true, true, true, true, true, true, true, false, true, true, true, true, true, false, false, false, false, false, false, false, false, false, false, false] #[true, true, false, true, true, true, true, false, true, true, true, true, true, false, false, false, false, false, false, false, true, false, false, false] rfl rfl rfl rfl (two_of HT_.out (by kernel_rfl)) (by decide) (by decide) (fun K hK => ?_) (fun K hK => ?_)
                               ·skip
                                refine Kd.R_lit_step k39 _ 39 ?hg (N := 98) ?hd (xs := ([] : List (S39))) (inner := []) (ok := fun _ => True) (okp := fun _ => True) ?hr ?hp (fun _ hk => hk) trivial (Below.refl _ _) (Nat.le_refl _) (by simp) ?_; (case hd => rfl); (case hg => rfl); (case hr => first | (go_simp; done) | (go_simp; rfl)); (case hp => exact (Reps.none _ _))
                                intro v238 w90 ho91 hb hg_ hnew_
                                clear hg_ hnew_
                                (first | rw [← Ny237.out] at ho91 | (simp only [Int.reduceToNat] at ho91; rw [← Ny237.out] at ho91))
                                have n0_ := Aside0.mk (z10_ (by (with_reducible repeat (first | apply z9_ | apply z7_ | apply z8_)); exact HO_227002.out) hb)
                                have n1_ := Aside0.mk (z10_ (by (with_reducible repeat (first | apply z9_ | apply z7_ | apply z8_)); exact HO_235002.out) hb)
                                have n2_ := Aside0.mk (Kd.R_lower ho91 (below_size (by repeat (first | (with_reducible first | exact HB.out | apply z6_ | apply z4_ | apply z5_ | refine z3_ ?_ GE213.out | refine z3_ ?_ GE218.out | refine z3_ ?_ GE226.out | refine z3_ ?_ GE234.out) | exact HB.out))))
                                have n3_ := Aside0.mk (z20_ (g := gb213) (o := .cells #[.int .i64 a0_0, .slice A0_1 l0_1.length c0_1] 24 (0, 0)) (by (with_reducible repeat (first | refine z0_ ?_ _ | refine z1_ ?_ | refine z2_ ?_ _)); exact BK213.out) hb)
                                have n4_ := Aside0.mk (z20_ (g := gb218) (o := .cells #[.int .i64 x219000_21, .slice A0_1 l0_1.length c0_1] 24 (0, 0)) (by (with_reducible repeat (first | refine z0_ ?_ _ | refine z1_ ?_ | refine z2_ ?_ _)); exact BK218.out) hb)
                                have n5_ := Aside0.mk (z20_ (g := gb226) (o := .cells #[.bool t220, .int .i64 t221, .slice Ao41 t222.length co41] 30 (0, 0)) (by (with_reducible repeat (first | refine z0_ ?_ _ | refine z1_ ?_ | refine z2_ ?_ _)); exact BK226.out) hb)
                                have n6_ := Aside0.mk (z20_ (g := gb234) (o := .cells #[.bool t228, .int .i64 t229, .slice Ao49 t230.length co49] 30 (0, 0)) (by (with_reducible repeat (first | refine z0_ ?_ _ | refine z1_ ?_ | refine z2_ ?_ _)); exact BK234.out) hb)
                                have n7_ := Aside0.mk (z24_ (by repeat (first | (with_reducible first | exact HB.out | apply z6_ | apply z4_ | apply z5_ | refine z3_ ?_ GE213.out | refine z3_ ?_ GE218.out | refine z3_ ?_ GE226.out | refine z3_ ?_ GE234.out) | exact HB.out)) hb)
                                clear HO_227002
                                clear HO_235002
                                clear BK213
                                clear BK218
                                clear BK226
                                clear BK234
                                clear HB
                                have HO_227002 := n0_
                                have HO_235002 := n1_
                                have HO239 := n2_
                                have BK213 := n3_
                                have BK218 := n4_
                                have BK226 := n5_
                                have BK234 := n6_
                                have HB := n7_
                                clear n0_ n1_ n2_ n3_ n4_ n5_ n6_ n7_
                                clear hb ho91
                                refine hK.out _ _ ⟨(z23_ BK213.out 0).trans rfl, (z23_ BK213.out 1).trans rfl⟩ (fun hHeld => ?_)
                                clear hK K
                                refine norm_ (a' := ?_) ?_ ?_
                                rotate_left
                                ·show Act.put _ (some 98) _ = _
                                 simp only [Act.put, z15_, z16_, z17_, i64_w, i32_w]
                                 rfl
                                exact norm_ (by first | (simp only [putAll, Act.put, z15_, z16_, z17_]; done) | (simp only [putAll, Act.put, z15_, z16_, z17_]; rfl)) (hJ2 (v238) _ ⟨hHeld, (by (with_reducible repeat (first | apply z9_ | apply z7_ | apply z8_)); exact HO239.out), (by (with_reducible repeat (first | apply z9_ | apply z7_ | apply z8_)); exact HO_227002.out), (by (with_reducible repeat (first | apply z9_ | apply z7_ | apply z8_)); exact HO_235002.out), (by (with_reducible repeat (first | refine z0_ ?_ _ | refine z1_ ?_ | refine z2_ ?_ _)); exact BK213.out), (by (with_reducible repeat (first | refine z0_ ?_ _ | refine z1_ ?_ | refine z2_ ?_ _)); exact BK218.out), (by (with_reducible repeat (first | refine z0_ ?_ _ | refine z1_ ?_ | refine z2_ ?_ _)); exact BK226.out), (by (with_reducible repeat (first | refine z0_ ?_ _ | refine z1_ ?_ | refine z2_ ?_ _)); exact BK234.out), (by repeat (first | (with_reducible first | exact HB.out | apply z6_ | apply z4_ | apply z5_ | refine z3_ ?_ GE213.out | refine z3_ ?_ GE218.out | refine z3_ ?_ GE226.out | refine z3_ ?_ GE234.out) | exact HB.out))⟩)
                               ·skip
                                refine box_step ?hg (N := 15) ?hd (cs := #[.bool false, .int .i64 0, .slice none 0 0]) (t := 30) ?hr ?_; (case hd => rfl); (case hg => rfl); (case hr => first | (go_simp; done) | (go_simp; rfl))
                                intro gb261 hg w90 hbox hb
                                have n0_ := Aside0.mk (z10_ (by (with_reducible repeat (first | apply z9_ | apply z7_ | apply z8_)); exact HO_227002.out) hb)
                                have n1_ := Aside0.mk (z10_ (by (with_reducible repeat (first | apply z9_ | apply z7_ | apply z8_)); exact HO_235002.out) hb)
                                have n2_ := Aside0.mk (z20_ (g := gb213) (o := .cells #[.int .i64 a0_0, .slice A0_1 l0_1.length c0_1] 24 (0, 0)) (by (with_reducible repeat (first | refine z0_ ?_ _ | refine z1_ ?_ | refine z2_ ?_ _)); exact BK213.out) hb)
                                have n3_ := Aside0.mk (z20_ (g := gb218) (o := .cells #[.int .i64 x219000_21, .slice A0_1 l0_1.length c0_1] 24 (0, 0)) (by (with_reducible repeat (first | refine z0_ ?_ _ | refine z1_ ?_ | refine z2_ ?_ _)); exact BK218.out) hb)
                                have n4_ := Aside0.mk (z20_ (g := gb226) (o := .cells #[.bool t220, .int .i64 t221, .slice Ao41 t222.length co41] 30 (0, 0)) (by (with_reducible repeat (first | refine z0_ ?_ _ | refine z1_ ?_ | refine z2_ ?_ _)); exact BK226.out) hb)
                                have n5_ := Aside0.mk (z20_ (g := gb234) (o := .cells #[.bool t228, .int .i64 t229, .slice Ao49 t230.length co49] 30 (0, 0)) (by (with_reducible repeat (first | refine z0_ ?_ _ | refine z1_ ?_ | refine z2_ ?_ _)); exact BK234.out) hb)
                                have n6_ := Aside0.mk (z24_ (by repeat (first | (with_reducible first | exact HB.out | apply z6_ | apply z4_ | apply z5_ | refine z3_ ?_ GE213.out | refine z3_ ?_ GE218.out | refine z3_ ?_ GE226.out | refine z3_ ?_ GE234.out) | exact HB.out)) hb)
                                have n7_ := Aside0.mk (hbox)
                                have n8_ := Aside0.mk ((by rw [hg]; exact (below_size (by repeat (first | (with_reducible first | exact HB.out | apply z6_ | apply z4_ | apply z5_ | refine z3_ ?_ GE213.out | refine z3_ ?_ GE218.out | refine z3_ ?_ GE226.out | refine z3_ ?_ GE234.out) | exact HB.out))) : w.heap.size ≤ gb261))
                                have n9_ := Aside0.mk ((by rw [hg]; exact (below_size (by repeat (first | (with_reducible first | exact HB.out | apply z6_ | apply z4_ | apply z5_ | refine z3_ ?_ GE213.out | refine z3_ ?_ GE218.out | refine z3_ ?_ GE226.out | refine z3_ ?_ GE234.out) | exact HB.out))) : w.heap.size ≤ gb261))
                                have n10_ := Aside0.mk ((by rw [hg]; exact Nat.ne_of_lt (blk_lt (g := gb213) (o := .cells #[.int .i64 a0_0, .slice A0_1 l0_1.length c0_1] 24 (0, 0)) (by (with_reducible repeat (first | refine z0_ ?_ _ | refine z1_ ?_ | refine z2_ ?_ _)); exact BK213.out)) : gb213 ≠ gb261))
                                have n11_ := Aside0.mk ((by rw [hg]; exact Nat.ne_of_gt (blk_lt (g := gb213) (o := .cells #[.int .i64 a0_0, .slice A0_1 l0_1.length c0_1] 24 (0, 0)) (by (with_reducible repeat (first | refine z0_ ?_ _ | refine z1_ ?_ | refine z2_ ?_ _)); exact BK213.out)) : gb261 ≠ gb213))
                                have n12_ := Aside0.mk ((by rw [hg]; exact Nat.ne_of_lt (blk_lt (g := gb218) (o := .cells #[.int .i64 x219000_21, .slice A0_1 l0_1.length c0_1] 24 (0, 0)) (by (with_reducible repeat (first | refine z0_ ?_ _ | refine z1_ ?_ | refine z2_ ?_ _)); exact BK218.out)) : gb218 ≠ gb261))
                                have n13_ := Aside0.mk ((by rw [hg]; exact Nat.ne_of_gt (blk_lt (g := gb218) (o := .cells #[.int .i64 x219000_21, .slice A0_1 l0_1.length c0_1] 24 (0, 0)) (by (with_reducible repeat (first | refine z0_ ?_ _ | refine z1_ ?_ | refine z2_ ?_ _)); exact BK218.out)) : gb261 ≠ gb218))
                                have n14_ := Aside0.mk ((by rw [hg]; exact Nat.ne_of_lt (blk_lt (g := gb226) (o := .cells #[.bool t220, .int .i64 t221, .slice Ao41 t222.length co41] 30 (0, 0)) (by (with_reducible repeat (first | refine z0_ ?_ _ | refine z1_ ?_ | refine z2_ ?_ _)); exact BK226.out)) : gb226 ≠ gb261))
                                have n15_ := Aside0.mk ((by rw [hg]; exact Nat.ne_of_gt (blk_lt (g := gb226) (o := .cells #[.bool t220, .int .i64 t221, .slice Ao41 t222.length co41] 30 (0, 0)) (by (with_reducible repeat (first | refine z0_ ?_ _ | refine z1_ ?_ | refine z2_ ?_ _)); exact BK226.out)) : gb261 ≠ gb226))
                                have n16_ := Aside0.mk ((by rw [hg]; exact Nat.ne_of_lt (blk_lt (g := gb234) (o := .cells #[.bool t228, .int .i64 t229, .slice Ao49 t230.length co49] 30 (0, 0)) (by (with_reducible repeat (first | refine z0_ ?_ _ | refine z1_ ?_ | refine z2_ ?_ _)); exact BK234.out)) : gb234 ≠ gb261))
                                have n17_ := Aside0.mk ((by rw [hg]; exact Nat.ne_of_gt (blk_lt (g := gb234) (o := .cells #[.bool t228, .int .i64 t229, .slice Ao49 t230.length co49] 30 (0, 0)) (by (with_reducible repeat (first | refine z0_ ?_ _ | refine z1_ ?_ | refine z2_ ?_ _)); exact BK234.out)) : gb261 ≠ gb234))
                                clear HO_227002
                                clear HO_235002
                                clear BK213
                                clear BK218
                                clear BK226
                                clear BK234
                                clear HB
                                have HO_227002 := n0_
                                have HO_235002 := n1_
                                have BK213 := n2_
                                have BK218 := n3_
                                have BK226 := n4_
                                have BK234 := n5_
                                have HB := n6_
                                have BK261 := n7_
                                have GW261 := n8_
                                have GE261 := n9_
                                have NB213_261 := n10_
                                have NB261_213 := n11_
                                have NB218_261 := n12_
                                have NB261_218 := n13_
                                have NB226_261 := n14_
                                have NB261_226 := n15_
                                have NB234_261 := n16_
                                have NB261_234 := n17_
                                clear n0_ n1_ n2_ n3_ n4_ n5_ n6_ n7_ n8_ n9_ n10_ n11_ n12_ n13_ n14_ n15_ n16_ n17_
                                clear hb hbox hg
                                refine hK.out _ _ ⟨(z23_ BK213.out 0).trans rfl, (z23_ BK213.out 1).trans rfl⟩ (fun hHeld => ?_)
                                clear hK K
                                refine norm_ (a' := ?_) ?_ ?_
                                rotate_left
                                ·show Act.put _ (some 15) _ = _
                                 simp only [Act.put, z15_, z16_, z17_, i64_w, i32_w]
                                 rfl
                                exact norm_ (by first | (simp only [putAll, Act.put, z15_, z16_, z17_]; done) | (simp only [putAll, Act.put, z15_, z16_, z17_]; rfl)) (hJ20 (gb261) _ ⟨hHeld, (by (with_reducible repeat (first | apply z9_ | apply z7_ | apply z8_)); exact HO_227002.out), (by (with_reducible repeat (first | apply z9_ | apply z7_ | apply z8_)); exact HO_235002.out), (by (with_reducible repeat (first | refine z0_ ?_ _ | refine z1_ ?_ | refine z2_ ?_ _)); exact BK213.out), (by (with_reducible repeat (first | refine z0_ ?_ _ | refine z1_ ?_ | refine z2_ ?_ _)); exact BK218.out), (by (with_reducible repeat (first | refine z0_ ?_ _ | refine z1_ ?_ | refine z2_ ?_ _)); exact BK226.out), (by (with_reducible repeat (first | refine z0_ ?_ _ | refine z1_ ?_ | refine z2_ ?_ _)); exact BK234.out), (by (with_reducible repeat (first | refine z0_ ?_ _ | refine z1_ ?_ | refine z2_ ?_ _)); exact BK261.out), GW261.out, GE261.out, NB213_261.out, NB261_213.out, NB218_261.out, NB261_218.out, NB226_261.out, NB261_226.out, NB234_261.out, NB261_234.out, (by repeat (first | (with_reducible first | exact HB.out | apply z6_ | apply z4_ | apply z5_ | refine z3_ ?_ GE213.out | refine z3_ ?_ GE218.out | refine z3_ ?_ GE226.out | refine z3_ ?_ GE234.out | refine z3_ ?_ GE261.out) | exact HB.out))⟩)
                              ·skip
                               rintro gb261 w91 ⟨hS_, h0_, h1_, h2_, h3_, h4_, h5_, h6_, h7_, h8_, h9_, h10_, h11_, h12_, h13_, h14_, h15_, h16_, h17_⟩
                               have n0_ : Aside0 (Kd.R (Kd.int .i64) 3 w91 w.heap.size (fun k_ => some k_ ≠ (.slice Ao49 t230.length co49 : Value).ownBlock) (.slice Ao41 t222.length co41) t222) := ⟨h0_⟩
                               have n1_ : Aside0 (Kd.R (Kd.int .i64) 3 w91 w.heap.size (fun k_ => some k_ ≠ (.slice Ao41 t222.length co41 : Value).ownBlock) (.slice Ao49 t230.length co49) t230) := ⟨h1_⟩
                               have n2_ : Aside0 (w91.heap[gb213]? = some (.cells #[.int .i64 a0_0, .slice A0_1 l0_1.length c0_1] 24 (0, 0))) := ⟨h2_⟩
                               have n3_ : Aside0 (w91.heap[gb218]? = some (.cells #[.int .i64 x219000_21, .slice A0_1 l0_1.length c0_1] 24 (0, 0))) := ⟨h3_⟩
                               have n4_ : Aside0 (w91.heap[gb226]? = some (.cells #[.bool t220, .int .i64 t221, .slice Ao41 t222.length co41] 30 (0, 0))) := ⟨h4_⟩
                               have n5_ : Aside0 (w91.heap[gb234]? = some (.cells #[.bool t228, .int .i64 t229, .slice Ao49 t230.length co49] 30 (0, 0))) := ⟨h5_⟩
                               have n6_ : Aside0 (w91.heap[gb261]? = some (.cells #[.bool false, .int .i64 0, .slice none 0 0] 30 (0, 0))) := ⟨h6_⟩
                               have n7_ : Aside0 (w.heap.size ≤ gb261) := ⟨h7_⟩
                               have n8_ : Aside0 (w.heap.size ≤ gb261) := ⟨h8_⟩
                               have n9_ : Aside0 (gb213 ≠ gb261) := ⟨h9_⟩
                               have n10_ : Aside0 (gb261 ≠ gb213) := ⟨h10_⟩
                               have n11_ : Aside0 (gb218 ≠ gb261) := ⟨h11_⟩
                               have n12_ : Aside0 (gb261 ≠ gb218) := ⟨h12_⟩
                               have n13_ : Aside0 (gb226 ≠ gb261) := ⟨h13_⟩
                               have n14_ : Aside0 (gb261 ≠ gb226) := ⟨h14_⟩
                               have n15_ : Aside0 (gb234 ≠ gb261) := ⟨h15_⟩
                               have n16_ : Aside0 (gb261 ≠ gb234) := ⟨h16_⟩
                               have n17_ : Aside0 (Below w.heap.size w w91) := ⟨h17_⟩
                               clear HO_227002
                               clear HO_235002
                               clear BK213
                               clear BK218
                               clear BK226
                               clear BK234
                               clear HB
                               clear h0_ h1_ h2_ h3_ h4_ h5_ h6_ h7_ h8_ h9_ h10_ h11_ h12_ h13_ h14_ h15_ h16_ h17_
                               have HO_227002 := n0_
                               have HO_235002 := n1_
                               have BK213 := n2_
                               have BK218 := n3_
                               have BK226 := n4_
                               have BK234 := n5_
                               have BK261 := n6_
                               have GW261 := n7_
                               have GE261 := n8_
                               have NB213_261 := n9_
                               have NB261_213 := n10_
                               have NB218_261 := n11_
                               have NB261_218 := n12_
                               have NB226_261 := n13_
                               have NB261_226 := n14_
                               have NB234_261 := n15_
                               have NB261_234 := n16_
                               have HB := n17_
                               clear n0_ n1_ n2_ n3_ n4_ n5_ n6_ n7_ n8_ n9_ n10_ n11_ n12_ n13_ n14_ n15_ n16_ n17_
                               have hHeld : w91.cell? ⟨gb213, 0, none⟩ = some (.int .i64 a0_0) ∧ w91.cell? ⟨gb213, 1, none⟩ = some (.slice A0_1 l0_1.length c0_1) := hS_
                               refine norm_ (a' := ?_) ?_ ?_
                               rotate_left
                               ·simp only [putAll, Act.put, z15_, z16_, z17_]
                                rfl
                               refine one_ (i := 2) (N := some 98) #[true, true, true, true, true, true, true, false, true, true, true, true, true, false, false, false, false, false, false, false, true, false, false, false] rfl rfl (one_of HT_.out (by kernel_rfl)) (by decide) (fun K hK => ?_)
                               refine Kd.R_lit_step k39 _ 39 ?hg (N := 98) ?hd (xs := ([] : List (S39))) (inner := []) (ok := fun _ => True) (okp := fun _ => True) ?hr ?hp (fun _ hk => hk) trivial (Below.refl _ _) (Nat.le_refl _) (by simp) ?_; (case hd => rfl); (case hg => rfl); (case hr => first | (go_simp; done) | (go_simp; rfl)); (case hp => exact (Reps.none _ _))
                               intro v238 w92 ho93 hb hg_ hnew_
                               clear hg_ hnew_
                               (first | rw [← Ny237.out] at ho93 | (simp only [Int.reduceToNat] at ho93; rw [← Ny237.out] at ho93))
                               have n0_ := Aside0.mk (z10_ (by (with_reducible repeat (first | apply z9_ | apply z7_ | apply z8_)); exact HO_227002.out) hb)
                               have n1_ := Aside0.mk (z10_ (by (with_reducible repeat (first | apply z9_ | apply z7_ | apply z8_)); exact HO_235002.out) hb)
                               have n2_ := Aside0.mk (Kd.R_lower ho93 (below_size (by repeat (first | (with_reducible first | exact HB.out | apply z6_ | apply z4_ | apply z5_ | refine z3_ ?_ GE213.out | refine z3_ ?_ GE218.out | refine z3_ ?_ GE226.out | refine z3_ ?_ GE234.out | refine z3_ ?_ GE261.out) | exact HB.out))))
                               have n3_ := Aside0.mk (z20_ (g := gb213) (o := .cells #[.int .i64 a0_0, .slice A0_1 l0_1.length c0_1] 24 (0, 0)) (by (with_reducible repeat (first | refine z0_ ?_ _ | refine z1_ ?_ | refine z2_ ?_ _)); exact BK213.out) hb)
                               have n4_ := Aside0.mk (z20_ (g := gb218) (o := .cells #[.int .i64 x219000_21, .slice A0_1 l0_1.length c0_1] 24 (0, 0)) (by (with_reducible repeat (first | refine z0_ ?_ _ | refine z1_ ?_ | refine z2_ ?_ _)); exact BK218.out) hb)
                               have n5_ := Aside0.mk (z20_ (g := gb226) (o := .cells #[.bool t220, .int .i64 t221, .slice Ao41 t222.length co41] 30 (0, 0)) (by (with_reducible repeat (first | refine z0_ ?_ _ | refine z1_ ?_ | refine z2_ ?_ _)); exact BK226.out) hb)
                               have n6_ := Aside0.mk (z20_ (g := gb234) (o := .cells #[.bool t228, .int .i64 t229, .slice Ao49 t230.length co49] 30 (0, 0)) (by (with_reducible repeat (first | refine z0_ ?_ _ | refine z1_ ?_ | refine z2_ ?_ _)); exact BK234.out) hb)
                               have n7_ := Aside0.mk (z20_ (g := gb261) (o := .cells #[.bool false, .int .i64 0, .slice none 0 0] 30 (0, 0)) (by (with_reducible repeat (first | refine z0_ ?_ _ | refine z1_ ?_ | refine z2_ ?_ _)); exact BK261.out) hb)
                               have n8_ := Aside0.mk (z24_ (by repeat (first | (with_reducible first | exact HB.out | apply z6_ | apply z4_ | apply z5_ | refine z3_ ?_ GE213.out | refine z3_ ?_ GE218.out | refine z3_ ?_ GE226.out | refine z3_ ?_ GE234.out | refine z3_ ?_ GE261.out) | exact HB.out)) hb)
                               clear HO_227002
                               clear HO_235002
                               clear BK213
                               clear BK218
                               clear BK226
                               clear BK234
                               clear BK261
                               clear HB
                               have HO_227002 := n0_
                               have HO_235002 := n1_
                               have HO239 := n2_
                               have BK213 := n3_
                               have BK218 := n4_
                               have BK226 := n5_
                               have BK234 := n6_
                               have BK261 := n7_
                               have HB := n8_
                               clear n0_ n1_ n2_ n3_ n4_ n5_ n6_ n7_ n8_
                               clear hb ho93
                               refine hK.out _ _ ⟨(z23_ BK213.out 0).trans rfl, (z23_ BK213.out 1).trans rfl⟩ (fun hHeld => ?_)
                               clear hK K
                               refine norm_ (a' := ?_) ?_ ?_
                               rotate_left
                               ·show Act.put _ (some 98) _ = _
                                simp only [Act.put, z15_, z16_, z17_, i64_w, i32_w]
                                rfl
                               exact norm_ (by first | (simp only [putAll, Act.put, z15_, z16_, z17_]; done) | (simp only [putAll, Act.put, z15_, z16_, z17_]; rfl)) (hJ2_20 (v238, gb261) _ ⟨hHeld, (by (with_reducible repeat (first | apply z9_ | apply z7_ | apply z8_)); exact HO239.out), (by (with_reducible repeat (first | apply z9_ | apply z7_ | apply z8_)); exact HO_227002.out), (by (with_reducible repeat (first | apply z9_ | apply z7_ | apply z8_)); exact HO_235002.out), (by (with_reducible repeat (first | refine z0_ ?_ _ | refine z1_ ?_ | refine z2_ ?_ _)); exact BK213.out), (by (with_reducible repeat (first | refine z0_ ?_ _ | refine z1_ ?_ | refine z2_ ?_ _)); exact BK218.out), (by (with_reducible repeat (first | refine z0_ ?_ _ | refine z1_ ?_ | refine z2_ ?_ _)); exact BK226.out), (by (with_reducible repeat (first | refine z0_ ?_ _ | refine z1_ ?_ | refine z2_ ?_ _)); exact BK234.out), (by (with_reducible repeat (first | refine z0_ ?_ _ | refine z1_ ?_ | refine z2_ ?_ _)); exact BK261.out), GW261.out, GE261.out, NB213_261.out, NB261_213.out, NB218_261.out, NB261_218.out, NB226_261.out, NB261_226.out, NB234_261.out, NB261_234.out, (by repeat (first | (with_reducible first | exact HB.out | apply z6_ | apply z4_ | apply z5_ | refine z3_ ?_ GE213.out | refine z3_ ?_ GE218.out | refine z3_ ?_ GE226.out | refine z3_ ?_ GE234.out | refine z3_ ?_ GE261.out) | exact HB.out))⟩)
                             ·skip
                              rintro v238 w92 ⟨hS_, h0_, h1_, h2_, h3_, h4_, h5_, h6_, h7_⟩
                              have n0_ : Aside0 (Kd.R k39 39 w92 w.heap.size (fun _ => True) v238 y237) := ⟨h0_⟩
                              have n1_ : Aside0 (Kd.R (Kd.int .i64) 3 w92 w.heap.size (fun k_ => some k_ ≠ (.slice Ao49 t230.length co49 : Value).ownBlock) (.slice Ao41 t222.length co41) t222) := ⟨h1_⟩
                              have n2_ : Aside0 (Kd.R (Kd.int .i64) 3 w92 w.heap.size (fun k_ => some k_ ≠ (.slice Ao41 t222.length co41 : Value).ownBlock) (.slice Ao49 t230.length co49) t230) := ⟨h2_⟩
                              have n3_ : Aside0 (w92.heap[gb213]? = some (.cells #[.int .i64 a0_0, .slice A0_1 l0_1.length c0_1] 24 (0, 0))) := ⟨h3_⟩
                              have n4_ : Aside0 (w92.heap[gb218]? = some (.cells #[.int .i64 x219000_21, .slice A0_1 l0_1.length c0_1] 24 (0, 0))) := ⟨h4_⟩
                              have n5_ : Aside0 (w92.heap[gb226]? = some (.cells #[.bool t220, .int .i64 t221, .slice Ao41 t222.length co41] 30 (0, 0))) := ⟨h5_⟩
                              have n6_ : Aside0 (w92.heap[gb234]? = some (.cells #[.bool t228, .int .i64 t229, .slice Ao49 t230.length co49] 30 (0, 0))) := ⟨h6_⟩
                              have n7_ : Aside0 (Below w.heap.size w w92) := ⟨h7_⟩
                              clear HO_227002
                              clear HO_235002
                              clear BK213
                              clear BK218
                              clear BK226
                              clear BK234
                              clear HB
                              clear h0_ h1_ h2_ h3_ h4_ h5_ h6_ h7_
                              have HO239 := n0_
                              have HO_227002 := n1_
                              have HO_235002 := n2_
                              have BK213 := n3_
                              have BK218 := n4_
                              have BK226 := n5_
                              have BK234 := n6_
                              have HB := n7_
                              clear n0_ n1_ n2_ n3_ n4_ n5_ n6_ n7_
                              have hHeld : w92.cell? ⟨gb213, 0, none⟩ = some (.int .i64 a0_0) ∧ w92.cell? ⟨gb213, 1, none⟩ = some (.slice A0_1 l0_1.length c0_1) := hS_
                              refine norm_ (a' := ?_) ?_ ?_
                              rotate_left
                              ·simp only [putAll, Act.put, z15_, z16_, z17_]
                               rfl
                              refine two_ (i := 7) (j := 20) (Ni := some 103) (Nj := some 15) #[true, true, true, true, true, true, true, true, true, true, true, true, true, false, false, false, false, false, false, false, false, false, false, false] #[true, true, true, true, true, true, true, false, true, true, true, true, true, false, false, false, false, false, false, false, true, false, false, false] rfl rfl rfl rfl (two_of HT_.out (by kernel_rfl)) (by decide) (by decide) (fun K hK => ?_) (fun K hK => ?_)
                              ·skip
                               refine Kd.R_append_rows_step k39 (w0 := w) w.heap.size (by rfl) (.tmp 98) (.tmp 102) 22 39 (.agg #[(.string ⟨#[]⟩), (.int .i64 0), (.int .i64 0), (.int .i64 0), (.int .i64 0), (.int .i64 0), (.int .i64 0), (.int .i64 0), (.int .i64 0), (.int .i64 0), (.int .i64 0)]) 96 rfl Tryd.underlying22 info39 rfl (by decide) (by omega) v238 y237 y240 _ _ _ (fun _ => True) (fun _ => False) rfl rfl ?aO ?aR (fun _ _ h => h) (fun _ h => h.elim) ?aF ?aB ?aS ?aL ?_
                               (case aR => repeat (first | exact (Kd.C_below HR243.out HB.out) | (with_reducible refine Kd.C_alloc ?_ _) | (with_reducible refine Kd.C_drewN ?_ _) | (with_reducible refine Kd.C_drew ?_)))
                               (case aB => exact (by repeat (first | (with_reducible first | exact HB.out | apply z6_ | apply z4_ | apply z5_ | refine z3_ ?_ GE213.out | refine z3_ ?_ GE218.out | refine z3_ ?_ GE226.out | refine z3_ ?_ GE234.out) | exact HB.out)))
                               (case aF => exact (fun _ _ => trivial))
                               (case aO => exact (by (with_reducible repeat (first | apply z9_ | apply z7_ | apply z8_)); exact HO239.out))
                               (case aS => exact (below_size (by repeat (first | (with_reducible first | exact HB.out | apply z6_ | apply z4_ | apply z5_ | refine z3_ ?_ GE213.out | refine z3_ ?_ GE218.out | refine z3_ ?_ GE226.out | refine z3_ ?_ GE234.out) | exact HB.out))))
                               (case aL => have := LMc74.out; omega)
                               intro v245 w93 ho hb hg hat
                               rw [← Ny244.out] at ho
                               have n0_ := Aside0.mk (Kd.R_over' (by (with_reducible repeat (first | apply z9_ | apply z7_ | apply z8_)); exact HO_227002.out) (Kd.R_typed (by (with_reducible repeat (first | apply z9_ | apply z7_ | apply z8_)); exact HO239.out)) (by decide) hg)
                               have n1_ := Aside0.mk (Kd.R_over' (by (with_reducible repeat (first | apply z9_ | apply z7_ | apply z8_)); exact HO_235002.out) (Kd.R_typed (by (with_reducible repeat (first | apply z9_ | apply z7_ | apply z8_)); exact HO239.out)) (by decide) hg)
                               have n2_ := Aside0.mk (blk_grown (g := gb213) (o := .cells #[.int .i64 a0_0, .slice A0_1 l0_1.length c0_1] 24 (0, 0)) (by (with_reducible repeat (first | refine z0_ ?_ _ | refine z1_ ?_ | refine z2_ ?_ _)); exact BK213.out) hg (Kd.R_ne HO239.out BK213.out (by decide)))
                               have n3_ := Aside0.mk (blk_grown (g := gb218) (o := .cells #[.int .i64 x219000_21, .slice A0_1 l0_1.length c0_1] 24 (0, 0)) (by (with_reducible repeat (first | refine z0_ ?_ _ | refine z1_ ?_ | refine z2_ ?_ _)); exact BK218.out) hg (Kd.R_ne HO239.out BK218.out (by decide)))
                               have n4_ := Aside0.mk (blk_grown (g := gb226) (o := .cells #[.bool t220, .int .i64 t221, .slice Ao41 t222.length co41] 30 (0, 0)) (by (with_reducible repeat (first | refine z0_ ?_ _ | refine z1_ ?_ | refine z2_ ?_ _)); exact BK226.out) hg (Kd.R_ne HO239.out BK226.out (by decide)))
                               have n5_ := Aside0.mk (blk_grown (g := gb234) (o := .cells #[.bool t228, .int .i64 t229, .slice Ao49 t230.length co49] 30 (0, 0)) (by (with_reducible repeat (first | refine z0_ ?_ _ | refine z1_ ?_ | refine z2_ ?_ _)); exact BK234.out) hg (Kd.R_ne HO239.out BK234.out (by decide)))
                               have n6_ := Aside0.mk (hb)
                               have n7_ := Aside0.mk (ho)
                               clear HO_227002
                               clear HO_235002
                               clear BK213
                               clear BK218
                               clear BK226
                               clear BK234
                               clear HB
                               clear HO239
                               have HO_227002 := n0_
                               have HO_235002 := n1_
                               have BK213 := n2_
                               have BK218 := n3_
                               have BK226 := n4_
                               have BK234 := n5_
                               have HB := n6_
                               have HO246 := n7_
                               clear n0_ n1_ n2_ n3_ n4_ n5_ n6_ n7_
                               clear ho hb hg hat
                               refine hK.out _ _ ⟨(z23_ BK213.out 0).trans rfl, (z23_ BK213.out 1).trans rfl⟩ (fun hHeld => ?_)
                               clear hK K
                               refine norm_ (a' := ?_) ?_ ?_
                               rotate_left
                               ·show Act.put _ (some 103) _ = _
                                simp only [Act.put, z15_, z16_, z17_, i64_w, i32_w]
                                rfl
                               exact norm_ (by first | (simp only [putAll, Act.put, z15_, z16_, z17_]; done) | (simp only [putAll, Act.put, z15_, z16_, z17_]; rfl)) (hJ2_7 (v238, v245) _ ⟨hHeld, (by (with_reducible repeat (first | apply z9_ | apply z7_ | apply z8_)); exact HO246.out), (by (with_reducible repeat (first | apply z9_ | apply z7_ | apply z8_)); exact HO_227002.out), (by (with_reducible repeat (first | apply z9_ | apply z7_ | apply z8_)); exact HO_235002.out), (by (with_reducible repeat (first | refine z0_ ?_ _ | refine z1_ ?_ | refine z2_ ?_ _)); exact BK213.out), (by (with_reducible repeat (first | refine z0_ ?_ _ | refine z1_ ?_ | refine z2_ ?_ _)); exact BK218.out), (by (with_reducible repeat (first | refine z0_ ?_ _ | refine z1_ ?_ | refine z2_ ?_ _)); exact BK226.out), (by (with_reducible repeat (first | refine z0_ ?_ _ | refine z1_ ?_ | refine z2_ ?_ _)); exact BK234.out), (by repeat (first | (with_reducible first | exact HB.out | apply z6_ | apply z4_ | apply z5_ | refine z3_ ?_ GE213.out | refine z3_ ?_ GE218.out | refine z3_ ?_ GE226.out | refine z3_ ?_ GE234.out) | exact HB.out))⟩)
                              ·skip
                               refine box_step ?hg (N := 15) ?hd (cs := #[.bool false, .int .i64 0, .slice none 0 0]) (t := 30) ?hr ?_; (case hd => rfl); (case hg => rfl); (case hr => first | (go_simp; done) | (go_simp; rfl))
                               intro gb261 hg w93 hbox hb
                               have n0_ := Aside0.mk (z10_ (by (with_reducible repeat (first | apply z9_ | apply z7_ | apply z8_)); exact HO_227002.out) hb)
                               have n1_ := Aside0.mk (z10_ (by (with_reducible repeat (first | apply z9_ | apply z7_ | apply z8_)); exact HO_235002.out) hb)
                               have n2_ := Aside0.mk (z10_ (by (with_reducible repeat (first | apply z9_ | apply z7_ | apply z8_)); exact HO239.out) hb)
                               have n3_ := Aside0.mk (z20_ (g := gb213) (o := .cells #[.int .i64 a0_0, .slice A0_1 l0_1.length c0_1] 24 (0, 0)) (by (with_reducible repeat (first | refine z0_ ?_ _ | refine z1_ ?_ | refine z2_ ?_ _)); exact BK213.out) hb)
                               have n4_ := Aside0.mk (z20_ (g := gb218) (o := .cells #[.int .i64 x219000_21, .slice A0_1 l0_1.length c0_1] 24 (0, 0)) (by (with_reducible repeat (first | refine z0_ ?_ _ | refine z1_ ?_ | refine z2_ ?_ _)); exact BK218.out) hb)
                               have n5_ := Aside0.mk (z20_ (g := gb226) (o := .cells #[.bool t220, .int .i64 t221, .slice Ao41 t222.length co41] 30 (0, 0)) (by (with_reducible repeat (first | refine z0_ ?_ _ | refine z1_ ?_ | refine z2_ ?_ _)); exact BK226.out) hb)
                               have n6_ := Aside0.mk (z20_ (g := gb234) (o := .cells #[.bool t228, .int .i64 t229, .slice Ao49 t230.length co49] 30 (0, 0)) (by (with_reducible repeat (first | refine z0_ ?_ _ | refine z1_ ?_ | refine z2_ ?_ _)); exact BK234.out) hb)
                               have n7_ := Aside0.mk (z24_ (by repeat (first | (with_reducible first | exact HB.out | apply z6_ | apply z4_ | apply z5_ | refine z3_ ?_ GE213.out | refine z3_ ?_ GE218.out | refine z3_ ?_ GE226.out | refine z3_ ?_ GE234.out) | exact HB.out)) hb)
                               have n8_ := Aside0.mk (hbox)
                               have n9_ := Aside0.mk ((by rw [hg]; exact (below_size (by repeat (first | (with_reducible first | exact HB.out | apply z6_ | apply z4_ | apply z5_ | refine z3_ ?_ GE213.out | refine z3_ ?_ GE218.out | refine z3_ ?_ GE226.out | refine z3_ ?_ GE234.out) | exact HB.out))) : w.heap.size ≤ gb261))
                               have n10_ := Aside0.mk ((by rw [hg]; exact (below_size (by repeat (first | (with_reducible first | exact HB.out | apply z6_ | apply z4_ | apply z5_ | refine z3_ ?_ GE213.out | refine z3_ ?_ GE218.out | refine z3_ ?_ GE226.out | refine z3_ ?_ GE234.out) | exact HB.out))) : w.heap.size ≤ gb261))
                               have n11_ := Aside0.mk ((by rw [hg]; exact Nat.ne_of_lt (blk_lt (g := gb213) (o := .cells #[.int .i64 a0_0, .slice A0_1 l0_1.length c0_1] 24 (0, 0)) (by (with_reducible repeat (first | refine z0_ ?_ _ | refine z1_ ?_ | refine z2_ ?_ _)); exact BK213.out)) : gb213 ≠ gb261))
                               have n12_ := Aside0.mk ((by rw [hg]; exact Nat.ne_of_gt (blk_lt (g := gb213) (o := .cells #[.int .i64 a0_0, .slice A0_1 l0_1.length c0_1] 24 (0, 0)) (by (with_reducible repeat (first | refine z0_ ?_ _ | refine z1_ ?_ | refine z2_ ?_ _)); exact BK213.out)) : gb261 ≠ gb213))
                               have n13_ := Aside0.mk ((by rw [hg]; exact Nat.ne_of_lt (blk_lt (g := gb218) (o := .cells #[.int .i64 x219000_21, .slice A0_1 l0_1.length c0_1] 24 (0, 0)) (by (with_reducible repeat (first | refine z0_ ?_ _ | refine z1_ ?_ | refine z2_ ?_ _)); exact BK218.out)) : gb218 ≠ gb261))
                               have n14_ := Aside0.mk ((by rw [hg]; exact Nat.ne_of_gt (blk_lt (g := gb218) (o := .cells #[.int .i64 x219000_21, .slice A0_1 l0_1.length c0_1] 24 (0, 0)) (by (with_reducible repeat (first | refine z0_ ?_ _ | refine z1_ ?_ | refine z2_ ?_ _)); exact BK218.out)) : gb261 ≠ gb218))
                               have n15_ := Aside0.mk ((by rw [hg]; exact Nat.ne_of_lt (blk_lt (g := gb226) (o := .cells #[.bool t220, .int .i64 t221, .slice Ao41 t222.length co41] 30 (0, 0)) (by (with_reducible repeat (first | refine z0_ ?_ _ | refine z1_ ?_ | refine z2_ ?_ _)); exact BK226.out)) : gb226 ≠ gb261))
                               have n16_ := Aside0.mk ((by rw [hg]; exact Nat.ne_of_gt (blk_lt (g := gb226) (o := .cells #[.bool t220, .int .i64 t221, .slice Ao41 t222.length co41] 30 (0, 0)) (by (with_reducible repeat (first | refine z0_ ?_ _ | refine z1_ ?_ | refine z2_ ?_ _)); exact BK226.out)) : gb261 ≠ gb226))
                               have n17_ := Aside0.mk ((by rw [hg]; exact Nat.ne_of_lt (blk_lt (g := gb234) (o := .cells #[.bool t228, .int .i64 t229, .slice Ao49 t230.length co49] 30 (0, 0)) (by (with_reducible repeat (first | refine z0_ ?_ _ | refine z1_ ?_ | refine z2_ ?_ _)); exact BK234.out)) : gb234 ≠ gb261))
                               have n18_ := Aside0.mk ((by rw [hg]; exact Nat.ne_of_gt (blk_lt (g := gb234) (o := .cells #[.bool t228, .int .i64 t229, .slice Ao49 t230.length co49] 30 (0, 0)) (by (with_reducible repeat (first | refine z0_ ?_ _ | refine z1_ ?_ | refine z2_ ?_ _)); exact BK234.out)) : gb261 ≠ gb234))
                               clear HO_227002
                               clear HO_235002
                               clear HO239
                               clear BK213
                               clear BK218
                               clear BK226
                               clear BK234
                               clear HB
                               have HO_227002 := n0_
                               have HO_235002 := n1_
                               have HO239 := n2_
                               have BK213 := n3_
                               have BK218 := n4_
                               have BK226 := n5_
                               have BK234 := n6_
                               have HB := n7_
                               have BK261 := n8_
                               have GW261 := n9_
                               have GE261 := n10_
                               have NB213_261 := n11_
                               have NB261_213 := n12_
                               have NB218_261 := n13_
                               have NB261_218 := n14_
                               have NB226_261 := n15_
                               have NB261_226 := n16_
                               have NB234_261 := n17_
                               have NB261_234 := n18_
                               clear n0_ n1_ n2_ n3_ n4_ n5_ n6_ n7_ n8_ n9_ n10_ n11_ n12_ n13_ n14_ n15_ n16_ n17_ n18_
                               clear hb hbox hg
                               refine hK.out _ _ ⟨(z23_ BK213.out 0).trans rfl, (z23_ BK213.out 1).trans rfl⟩ (fun hHeld => ?_)
                               clear hK K
                               refine norm_ (a' := ?_) ?_ ?_
                               rotate_left
                               ·show Act.put _ (some 15) _ = _
                                simp only [Act.put, z15_, z16_, z17_, i64_w, i32_w]
                                rfl
                               exact norm_ (by first | (simp only [putAll, Act.put, z15_, z16_, z17_]; done) | (simp only [putAll, Act.put, z15_, z16_, z17_]; rfl)) (hJ2_20 (v238, gb261) _ ⟨hHeld, (by (with_reducible repeat (first | apply z9_ | apply z7_ | apply z8_)); exact HO239.out), (by (with_reducible repeat (first | apply z9_ | apply z7_ | apply z8_)); exact HO_227002.out), (by (with_reducible repeat (first | apply z9_ | apply z7_ | apply z8_)); exact HO_235002.out), (by (with_reducible repeat (first | refine z0_ ?_ _ | refine z1_ ?_ | refine z2_ ?_ _)); exact BK213.out), (by (with_reducible repeat (first | refine z0_ ?_ _ | refine z1_ ?_ | refine z2_ ?_ _)); exact BK218.out), (by (with_reducible repeat (first | refine z0_ ?_ _ | refine z1_ ?_ | refine z2_ ?_ _)); exact BK226.out), (by (with_reducible repeat (first | refine z0_ ?_ _ | refine z1_ ?_ | refine z2_ ?_ _)); exact BK234.out), (by (with_reducible repeat (first | refine z0_ ?_ _ | refine z1_ ?_ | refine z2_ ?_ _)); exact BK261.out), GW261.out, GE261.out, NB213_261.out, NB261_213.out, NB218_261.out, NB261_218.out, NB226_261.out, NB261_226.out, NB234_261.out, NB261_234.out, (by repeat (first | (with_reducible first | exact HB.out | apply z6_ | apply z4_ | apply z5_ | refine z3_ ?_ GE213.out | refine z3_ ?_ GE218.out | refine z3_ ?_ GE226.out | refine z3_ ?_ GE234.out | refine z3_ ?_ GE261.out) | exact HB.out))⟩)
                            ·skip
                             rintro ⟨v238, gb261⟩ w93 ⟨hS_, h0_, h1_, h2_, h3_, h4_, h5_, h6_, h7_, h8_, h9_, h10_, h11_, h12_, h13_, h14_, h15_, h16_, h17_, h18_⟩
                             have n0_ : Aside0 (Kd.R k39 39 w93 w.heap.size (fun _ => True) v238 y237) := ⟨h0_⟩
                             have n1_ : Aside0 (Kd.R (Kd.int .i64) 3 w93 w.heap.size (fun k_ => some k_ ≠ (.slice Ao49 t230.length co49 : Value).ownBlock) (.slice Ao41 t222.length co41) t222) := ⟨h1_⟩
                             have n2_ : Aside0 (Kd.R (Kd.int .i64) 3 w93 w.heap.size (fun k_ => some k_ ≠ (.slice Ao41 t222.length co41 : Value).ownBlock) (.slice Ao49 t230.length co49) t230) := ⟨h2_⟩
                             have n3_ : Aside0 (w93.heap[gb213]? = some (.cells #[.int .i64 a0_0, .slice A0_1 l0_1.length c0_1] 24 (0, 0))) := ⟨h3_⟩
                             have n4_ : Aside0 (w93.heap[gb218]? = some (.cells #[.int .i64 x219000_21, .slice A0_1 l0_1.length c0_1] 24 (0, 0))) := ⟨h4_⟩
                             have n5_ : Aside0 (w93.heap[gb226]? = some (.cells #[.bool t220, .int .i64 t221, .slice Ao41 t222.length co41] 30 (0, 0))) := ⟨h5_⟩
                             have n6_ : Aside0 (w93.heap[gb234]? = some (.cells #[.bool t228, .int .i64 t229, .slice Ao49 t230.length co49] 30 (0, 0))) := ⟨h6_⟩
                             have n7_ : Aside0 (w93.heap[gb261]? = some (.cells #[.bool false, .int .i64 0, .slice none 0 0] 30 (0, 0))) := ⟨h7_⟩
                             have n8_ : Aside0 (w.heap.size ≤ gb261) := ⟨h8_⟩
                             have n9_ : Aside0 (w.heap.size ≤ gb261) := ⟨h9_⟩
                             have n10_ : Aside0 (gb213 ≠ gb261) := ⟨h10_⟩
                             have n11_ : Aside0 (gb261 ≠ gb213) := ⟨h11_⟩
                             have n12_ : Aside0 (gb218 ≠ gb261) := ⟨h12_⟩
                             have n13_ : Aside0 (gb261 ≠ gb218) := ⟨h13_⟩
                             have n14_ : Aside0 (gb226 ≠ gb261) := ⟨h14_⟩
                             have n15_ : Aside0 (gb261 ≠ gb226) := ⟨h15_⟩
                             have n16_ : Aside0 (gb234 ≠ gb261) := ⟨h16_⟩
                             have n17_ : Aside0 (gb261 ≠ gb234) := ⟨h17_⟩
                             have n18_ : Aside0 (Below w.heap.size w w93) := ⟨h18_⟩
                             clear HO_227002
                             clear HO_235002
                             clear BK213
                             clear BK218
                             clear BK226
                             clear BK234
                             clear HB
                             clear h0_ h1_ h2_ h3_ h4_ h5_ h6_ h7_ h8_ h9_ h10_ h11_ h12_ h13_ h14_ h15_ h16_ h17_ h18_
                             have HO239 := n0_
                             have HO_227002 := n1_
                             have HO_235002 := n2_
                             have BK213 := n3_
                             have BK218 := n4_
                             have BK226 := n5_
                             have BK234 := n6_
                             have BK261 := n7_
                             have GW261 := n8_
                             have GE261 := n9_
                             have NB213_261 := n10_
                             have NB261_213 := n11_
                             have NB218_261 := n12_
                             have NB261_218 := n13_
                             have NB226_261 := n14_
                             have NB261_226 := n15_
                             have NB234_261 := n16_
                             have NB261_234 := n17_
                             have HB := n18_
                             clear n0_ n1_ n2_ n3_ n4_ n5_ n6_ n7_ n8_ n9_ n10_ n11_ n12_ n13_ n14_ n15_ n16_ n17_ n18_
                             have hHeld : w93.cell? ⟨gb213, 0, none⟩ = some (.int .i64 a0_0) ∧ w93.cell? ⟨gb213, 1, none⟩ = some (.slice A0_1 l0_1.length c0_1) := hS_
                             refine norm_ (a' := ?_) ?_ ?_
                             rotate_left
                             ·simp only [putAll, Act.put, z15_, z16_, z17_]
                              rfl
                             refine one_ (i := 7) (N := some 103) #[true, true, true, true, true, true, true, true, true, true, true, true, true, false, false, false, false, false, false, false, true, false, false, false] rfl rfl (one_of HT_.out (by kernel_rfl)) (by decide) (fun K hK => ?_)
                             refine Kd.R_append_rows_step k39 (w0 := w) w.heap.size (by rfl) (.tmp 98) (.tmp 102) 22 39 (.agg #[(.string ⟨#[]⟩), (.int .i64 0), (.int .i64 0), (.int .i64 0), (.int .i64 0), (.int .i64 0), (.int .i64 0), (.int .i64 0), (.int .i64 0), (.int .i64 0), (.int .i64 0)]) 96 rfl Tryd.underlying22 info39 rfl (by decide) (by omega) v238 y237 y240 _ _ _ (fun _ => True) (fun _ => False) rfl rfl ?aO ?aR (fun _ _ h => h) (fun _ h => h.elim) ?aF ?aB ?aS ?aL ?_
                             (case aR => repeat (first | exact (Kd.C_below HR243.out HB.out) | (with_reducible refine Kd.C_alloc ?_ _) | (with_reducible refine Kd.C_drewN ?_ _) | (with_reducible refine Kd.C_drew ?_)))
                             (case aB => exact (by repeat (first | (with_reducible first | exact HB.out | apply z6_ | apply z4_ | apply z5_ | refine z3_ ?_ GE213.out | refine z3_ ?_ GE218.out | refine z3_ ?_ GE226.out | refine z3_ ?_ GE234.out | refine z3_ ?_ GE261.out) | exact HB.out)))
                             (case aF => exact (fun _ _ => trivial))
                             (case aO => exact (by (with_reducible repeat (first | apply z9_ | apply z7_ | apply z8_)); exact HO239.out))
                             (case aS => exact (below_size (by repeat (first | (with_reducible first | exact HB.out | apply z6_ | apply z4_ | apply z5_ | refine z3_ ?_ GE213.out | refine z3_ ?_ GE218.out | refine z3_ ?_ GE226.out | refine z3_ ?_ GE234.out | refine z3_ ?_ GE261.out) | exact HB.out))))
                             (case aL => have := LMc74.out; omega)
                             intro v245 w94 ho hb hg hat
                             rw [← Ny244.out] at ho
                             have n0_ := Aside0.mk (Kd.R_over' (by (with_reducible repeat (first | apply z9_ | apply z7_ | apply z8_)); exact HO_227002.out) (Kd.R_typed (by (with_reducible repeat (first | apply z9_ | apply z7_ | apply z8_)); exact HO239.out)) (by decide) hg)
                             have n1_ := Aside0.mk (Kd.R_over' (by (with_reducible repeat (first | apply z9_ | apply z7_ | apply z8_)); exact HO_235002.out) (Kd.R_typed (by (with_reducible repeat (first | apply z9_ | apply z7_ | apply z8_)); exact HO239.out)) (by decide) hg)
                             have n2_ := Aside0.mk (blk_grown (g := gb213) (o := .cells #[.int .i64 a0_0, .slice A0_1 l0_1.length c0_1] 24 (0, 0)) (by (with_reducible repeat (first | refine z0_ ?_ _ | refine z1_ ?_ | refine z2_ ?_ _)); exact BK213.out) hg (Kd.R_ne HO239.out BK213.out (by decide)))
                             have n3_ := Aside0.mk (blk_grown (g := gb218) (o := .cells #[.int .i64 x219000_21, .slice A0_1 l0_1.length c0_1] 24 (0, 0)) (by (with_reducible repeat (first | refine z0_ ?_ _ | refine z1_ ?_ | refine z2_ ?_ _)); exact BK218.out) hg (Kd.R_ne HO239.out BK218.out (by decide)))
                             have n4_ := Aside0.mk (blk_grown (g := gb226) (o := .cells #[.bool t220, .int .i64 t221, .slice Ao41 t222.length co41] 30 (0, 0)) (by (with_reducible repeat (first | refine z0_ ?_ _ | refine z1_ ?_ | refine z2_ ?_ _)); exact BK226.out) hg (Kd.R_ne HO239.out BK226.out (by decide)))
                             have n5_ := Aside0.mk (blk_grown (g := gb234) (o := .cells #[.bool t228, .int .i64 t229, .slice Ao49 t230.length co49] 30 (0, 0)) (by (with_reducible repeat (first | refine z0_ ?_ _ | refine z1_ ?_ | refine z2_ ?_ _)); exact BK234.out) hg (Kd.R_ne HO239.out BK234.out (by decide)))
                             have n6_ := Aside0.mk (blk_grown (g := gb261) (o := .cells #[.bool false, .int .i64 0, .slice none 0 0] 30 (0, 0)) (by (with_reducible repeat (first | refine z0_ ?_ _ | refine z1_ ?_ | refine z2_ ?_ _)); exact BK261.out) hg (Kd.R_ne HO239.out BK261.out (by decide)))
                             have n7_ := Aside0.mk (hb)
                             have n8_ := Aside0.mk (ho)
                             clear HO_227002
                             clear HO_235002
                             clear BK213
                             clear BK218
                             clear BK226
                             clear BK234
                             clear BK261
                             clear HB
                             clear HO239
                             have HO_227002 := n0_
                             have HO_235002 := n1_
                             have BK213 := n2_
                             have BK218 := n3_
                             have BK226 := n4_
                             have BK234 := n5_
                             have BK261 := n6_
                             have HB := n7_
                             have HO246 := n8_
                             clear n0_ n1_ n2_ n3_ n4_ n5_ n6_ n7_ n8_
                             clear ho hb hg hat
                             refine hK.out _ _ ⟨(z23_ BK213.out 0).trans rfl, (z23_ BK213.out 1).trans rfl⟩ (fun hHeld => ?_)
                             clear hK K
                             refine norm_ (a' := ?_) ?_ ?_
                             rotate_left
                             ·show Act.put _ (some 103) _ = _
                              simp only [Act.put, z15_, z16_, z17_, i64_w, i32_w]
                              rfl
                             exact norm_ (by first | (simp only [putAll, Act.put, z15_, z16_, z17_]; done) | (simp only [putAll, Act.put, z15_, z16_, z17_]; rfl)) (hJ2_7_20 (v238, v245, gb261) _ ⟨hHeld, (by (with_reducible repeat (first | apply z9_ | apply z7_ | apply z8_)); exact HO246.out), (by (with_reducible repeat (first | apply z9_ | apply z7_ | apply z8_)); exact HO_227002.out), (by (with_reducible repeat (first | apply z9_ | apply z7_ | apply z8_)); exact HO_235002.out), (by (with_reducible repeat (first | refine z0_ ?_ _ | refine z1_ ?_ | refine z2_ ?_ _)); exact BK213.out), (by (with_reducible repeat (first | refine z0_ ?_ _ | refine z1_ ?_ | refine z2_ ?_ _)); exact BK218.out), (by (with_reducible repeat (first | refine z0_ ?_ _ | refine z1_ ?_ | refine z2_ ?_ _)); exact BK226.out), (by (with_reducible repeat (first | refine z0_ ?_ _ | refine z1_ ?_ | refine z2_ ?_ _)); exact BK234.out), (by (with_reducible repeat (first | refine z0_ ?_ _ | refine z1_ ?_ | refine z2_ ?_ _)); exact BK261.out), GW261.out, GE261.out, NB213_261.out, NB261_213.out, NB218_261.out, NB261_218.out, NB226_261.out, NB261_226.out, NB234_261.out, NB261_234.out, (by repeat (first | (with_reducible first | exact HB.out | apply z6_ | apply z4_ | apply z5_ | refine z3_ ?_ GE213.out | refine z3_ ?_ GE218.out | refine z3_ ?_ GE226.out | refine z3_ ?_ GE234.out | refine z3_ ?_ GE261.out) | exact HB.out))⟩)
                           ·skip
                            rintro ⟨v238, v245⟩ w93 ⟨hS_, h0_, h1_, h2_, h3_, h4_, h5_, h6_, h7_⟩
                            have n0_ : Aside0 (Kd.R k39 39 w93 w.heap.size (fun _ => True) v245 y244) := ⟨h0_⟩
                            have n1_ : Aside0 (Kd.R (Kd.int .i64) 3 w93 w.heap.size (fun k_ => some k_ ≠ (.slice Ao49 t230.length co49 : Value).ownBlock) (.slice Ao41 t222.length co41) t222) := ⟨h1_⟩
                            have n2_ : Aside0 (Kd.R (Kd.int .i64) 3 w93 w.heap.size (fun k_ => some k_ ≠ (.slice Ao41 t222.length co41 : Value).ownBlock) (.slice Ao49 t230.length co49) t230) := ⟨h2_⟩
                            have n3_ : Aside0 (w93.heap[gb213]? = some (.cells #[.int .i64 a0_0, .slice A0_1 l0_1.length c0_1] 24 (0, 0))) := ⟨h3_⟩
                            have n4_ : Aside0 (w93.heap[gb218]? = some (.cells #[.int .i64 x219000_21, .slice A0_1 l0_1.length c0_1] 24 (0, 0))) := ⟨h4_⟩
                            have n5_ : Aside0 (w93.heap[gb226]? = some (.cells #[.bool t220, .int .i64 t221, .slice Ao41 t222.length co41] 30 (0, 0))) := ⟨h5_⟩
                            have n6_ : Aside0 (w93.heap[gb234]? = some (.cells #[.bool t228, .int .i64 t229, .slice Ao49 t230.length co49] 30 (0, 0))) := ⟨h6_⟩
                            have n7_ : Aside0 (Below w.heap.size w w93) := ⟨h7_⟩
                            clear HO_227002
                            clear HO_235002
                            clear BK213
                            clear BK218
                            clear BK226
                            clear BK234
                            clear HB
                            clear h0_ h1_ h2_ h3_ h4_ h5_ h6_ h7_
                            have HO246 := n0_
                            have HO_227002 := n1_
                            have HO_235002 := n2_
                            have BK213 := n3_
                            have BK218 := n4_
                            have BK226 := n5_
                            have BK234 := n6_
                            have HB := n7_
                            clear n0_ n1_ n2_ n3_ n4_ n5_ n6_ n7_
                            have hHeld : w93.cell? ⟨gb213, 0, none⟩ = some (.int .i64 a0_0) ∧ w93.cell? ⟨gb213, 1, none⟩ = some (.slice A0_1 l0_1.length c0_1) := hS_
                            refine norm_ (a' := ?_) ?_ ?_
                            rotate_left
                            ·simp only [putAll, Act.put, z15_, z16_, z17_]
                             rfl
                            refine two_ (i := 13) (j := 20) (Ni := some 109) (Nj := some 15) #[true, true, true, true, true, true, true, true, true, true, true, true, true, true, false, false, false, false, false, false, false, false, false, false] #[true, true, true, true, true, true, true, true, true, true, true, true, true, false, false, false, false, false, false, false, true, false, false, false] rfl rfl rfl rfl (two_of HT_.out (by kernel_rfl)) (by decide) (by decide) (fun K hK => ?_) (fun K hK => ?_)
                            ·skip
                             refine Kd.R_append_rows_step k39 (w0 := w) w.heap.size (by rfl) (.tmp 103) (.tmp 108) 22 39 (.agg #[(.string ⟨#[]⟩), (.int .i64 0), (.int .i64 0), (.int .i64 0), (.int .i64 0), (.int .i64 0), (.int .i64 0), (.int .i64 0), (.int .i64 0), (.int .i64 0), (.int .i64 0)]) 96 rfl Tryd.underlying22 info39 rfl (by decide) (by omega) v245 y244 y247 _ _ _ (fun _ => True) (fun _ => False) rfl rfl ?aO ?aR (fun _ _ h => h) (fun _ h => h.elim) ?aF ?aB ?aS ?aL ?_
                             (case aR => repeat (first | exact (Kd.C_below HR250.out HB.out) | (with_reducible refine Kd.C_alloc ?_ _) | (with_reducible refine Kd.C_drewN ?_ _) | (with_reducible refine Kd.C_drew ?_)))
                             (case aB => exact (by repeat (first | (with_reducible first | exact HB.out | apply z6_ | apply z4_ | apply z5_ | refine z3_ ?_ GE213.out | refine z3_ ?_ GE218.out | refine z3_ ?_ GE226.out | refine z3_ ?_ GE234.out) | exact HB.out)))
                             (case aF => exact (fun _ _ => trivial))
                             (case aO => exact (by (with_reducible repeat (first | apply z9_ | apply z7_ | apply z8_)); exact HO246.out))
                             (case aS => exact (below_size (by repeat (first | (with_reducible first | exact HB.out | apply z6_ | apply z4_ | apply z5_ | refine z3_ ?_ GE213.out | refine z3_ ?_ GE218.out | refine z3_ ?_ GE226.out | refine z3_ ?_ GE234.out) | exact HB.out))))
                             (case aL => have := LMc78.out; omega)
                             intro v252 w94 ho hb hg hat
                             rw [← Ny251.out] at ho
                             have n0_ := Aside0.mk (Kd.R_over' (by (with_reducible repeat (first | apply z9_ | apply z7_ | apply z8_)); exact HO_227002.out) (Kd.R_typed (by (with_reducible repeat (first | apply z9_ | apply z7_ | apply z8_)); exact HO246.out)) (by decide) hg)
                             have n1_ := Aside0.mk (Kd.R_over' (by (with_reducible repeat (first | apply z9_ | apply z7_ | apply z8_)); exact HO_235002.out) (Kd.R_typed (by (with_reducible repeat (first | apply z9_ | apply z7_ | apply z8_)); exact HO246.out)) (by decide) hg)
                             have n2_ := Aside0.mk (blk_grown (g := gb213) (o := .cells #[.int .i64 a0_0, .slice A0_1 l0_1.length c0_1] 24 (0, 0)) (by (with_reducible repeat (first | refine z0_ ?_ _ | refine z1_ ?_ | refine z2_ ?_ _)); exact BK213.out) hg (Kd.R_ne HO246.out BK213.out (by decide)))
                             have n3_ := Aside0.mk (blk_grown (g := gb218) (o := .cells #[.int .i64 x219000_21, .slice A0_1 l0_1.length c0_1] 24 (0, 0)) (by (with_reducible repeat (first | refine z0_ ?_ _ | refine z1_ ?_ | refine z2_ ?_ _)); exact BK218.out) hg (Kd.R_ne HO246.out BK218.out (by decide)))
                             have n4_ := Aside0.mk (blk_grown (g := gb226) (o := .cells #[.bool t220, .int .i64 t221, .slice Ao41 t222.length co41] 30 (0, 0)) (by (with_reducible repeat (first | refine z0_ ?_ _ | refine z1_ ?_ | refine z2_ ?_ _)); exact BK226.out) hg (Kd.R_ne HO246.out BK226.out (by decide)))
                             have n5_ := Aside0.mk (blk_grown (g := gb234) (o := .cells #[.bool t228, .int .i64 t229, .slice Ao49 t230.length co49] 30 (0, 0)) (by (with_reducible repeat (first | refine z0_ ?_ _ | refine z1_ ?_ | refine z2_ ?_ _)); exact BK234.out) hg (Kd.R_ne HO246.out BK234.out (by decide)))
                             have n6_ := Aside0.mk (hb)
                             have n7_ := Aside0.mk (ho)
                             clear HO_227002
                             clear HO_235002
                             clear BK213
                             clear BK218
                             clear BK226
                             clear BK234
                             clear HB
                             clear HO246
                             have HO_227002 := n0_
                             have HO_235002 := n1_
                             have BK213 := n2_
                             have BK218 := n3_
                             have BK226 := n4_
                             have BK234 := n5_
                             have HB := n6_
                             have HO253 := n7_
                             clear n0_ n1_ n2_ n3_ n4_ n5_ n6_ n7_
                             clear ho hb hg hat
                             obtain ⟨Ao95, co95, eo95⟩ := Kd.R_slice HO253.out
                             (first | subst eo95 | (injection eo95 with f1_ f2_ f3_; have f4_ := f1_.symm; have f5_ := f3_.symm; clear f1_ f2_ f3_; subst f4_; subst f5_))
                             refine hK.out _ _ ⟨(z23_ BK213.out 0).trans rfl, (z23_ BK213.out 1).trans rfl⟩ (fun hHeld => ?_)
                             clear hK K
                             refine norm_ (a' := ?_) ?_ ?_
                             rotate_left
                             ·show Act.put _ (some 109) _ = _
                              simp only [Act.put, z15_, z16_, z17_, i64_w, i32_w]
                              rfl
                             refine pure_ (i := 14) (N := some 110) (v := ?_) (a' := ?_) #[true, true, true, true, true, true, true, true, true, true, true, true, true, true, true, false, false, false, false, false, false, false, false, false] rfl rfl (any_of HT_.out (by kernel_rfl)) (fun _ _ _ h => h) (Or.inl ⟨by rfl, ?_⟩) ?_ ?_
                             rotate_left
                             ·intro w'
                              go_simp
                              with_reducible rfl
                             rotate_left
                             ·simp only [Act.put, z15_, z16_, z17_, i64_w, i32_w]
                              rfl
                             exact norm_ (by first | (simp only [putAll, Act.put, z15_, z16_, z17_]; done) | (simp only [putAll, Act.put, z15_, z16_, z17_]; rfl)) (hJ2_7_13 (v238, v245, .slice Ao95 y251.length co95) _ ⟨hHeld, (by (with_reducible repeat (first | apply z9_ | apply z7_ | apply z8_)); exact HO253.out), (by (with_reducible repeat (first | apply z9_ | apply z7_ | apply z8_)); exact HO_227002.out), (by (with_reducible repeat (first | apply z9_ | apply z7_ | apply z8_)); exact HO_235002.out), (by (with_reducible repeat (first | refine z0_ ?_ _ | refine z1_ ?_ | refine z2_ ?_ _)); exact BK213.out), (by (with_reducible repeat (first | refine z0_ ?_ _ | refine z1_ ?_ | refine z2_ ?_ _)); exact BK218.out), (by (with_reducible repeat (first | refine z0_ ?_ _ | refine z1_ ?_ | refine z2_ ?_ _)); exact BK226.out), (by (with_reducible repeat (first | refine z0_ ?_ _ | refine z1_ ?_ | refine z2_ ?_ _)); exact BK234.out), (by repeat (first | (with_reducible first | exact HB.out | apply z6_ | apply z4_ | apply z5_ | refine z3_ ?_ GE213.out | refine z3_ ?_ GE218.out | refine z3_ ?_ GE226.out | refine z3_ ?_ GE234.out) | exact HB.out))⟩)
                            ·skip
                             refine box_step ?hg (N := 15) ?hd (cs := #[.bool false, .int .i64 0, .slice none 0 0]) (t := 30) ?hr ?_; (case hd => rfl); (case hg => rfl); (case hr => first | (go_simp; done) | (go_simp; rfl))
                             intro gb261 hg w94 hbox hb
                             have n0_ := Aside0.mk (z10_ (by (with_reducible repeat (first | apply z9_ | apply z7_ | apply z8_)); exact HO_227002.out) hb)
                             have n1_ := Aside0.mk (z10_ (by (with_reducible repeat (first | apply z9_ | apply z7_ | apply z8_)); exact HO_235002.out) hb)
                             have n2_ := Aside0.mk (z10_ (by (with_reducible repeat (first | apply z9_ | apply z7_ | apply z8_)); exact HO246.out) hb)
                             have n3_ := Aside0.mk (z20_ (g := gb213) (o := .cells #[.int .i64 a0_0, .slice A0_1 l0_1.length c0_1] 24 (0, 0)) (by (with_reducible repeat (first | refine z0_ ?_ _ | refine z1_ ?_ | refine z2_ ?_ _)); exact BK213.out) hb)
                             have n4_ := Aside0.mk (z20_ (g := gb218) (o := .cells #[.int .i64 x219000_21, .slice A0_1 l0_1.length c0_1] 24 (0, 0)) (by (with_reducible repeat (first | refine z0_ ?_ _ | refine z1_ ?_ | refine z2_ ?_ _)); exact BK218.out) hb)
                             have n5_ := Aside0.mk (z20_ (g := gb226) (o := .cells #[.bool t220, .int .i64 t221, .slice Ao41 t222.length co41] 30 (0, 0)) (by (with_reducible repeat (first | refine z0_ ?_ _ | refine z1_ ?_ | refine z2_ ?_ _)); exact BK226.out) hb)
                             have n6_ := Aside0.mk (z20_ (g := gb234) (o := .cells #[.bool t228, .int .i64 t229, .slice Ao49 t230.length co49] 30 (0, 0)) (by (with_reducible repeat (first | refine z0_ ?_ _ | refine z1_ ?_ | refine z2_ ?_ _)); exact BK234.out) hb)
                             have n7_ := Aside0.mk (z24_ (by repeat (first | (with_reducible first | exact HB.out | apply z6_ | apply z4_ | apply z5_ | refine z3_ ?_ GE213.out | refine z3_ ?_ GE218.out | refine z3_ ?_ GE226.out | refine z3_ ?_ GE234.out) | exact HB.out)) hb)
                             have n8_ := Aside0.mk (hbox)
                             have n9_ := Aside0.mk ((by rw [hg]; exact (below_size (by repeat (first | (with_reducible first | exact HB.out | apply z6_ | apply z4_ | apply z5_ | refine z3_ ?_ GE213.out | refine z3_ ?_ GE218.out | refine z3_ ?_ GE226.out | refine z3_ ?_ GE234.out) | exact HB.out))) : w.heap.size ≤ gb261))
                             have n10_ := Aside0.mk ((by rw [hg]; exact (below_size (by repeat (first | (with_reducible first | exact HB.out | apply z6_ | apply z4_ | apply z5_ | refine z3_ ?_ GE213.out | refine z3_ ?_ GE218.out | refine z3_ ?_ GE226.out | refine z3_ ?_ GE234.out) | exact HB.out))) : w.heap.size ≤ gb261))
                             have n11_ := Aside0.mk ((by rw [hg]; exact Nat.ne_of_lt (blk_lt (g := gb213) (o := .cells #[.int .i64 a0_0, .slice A0_1 l0_1.length c0_1] 24 (0, 0)) (by (with_reducible repeat (first | refine z0_ ?_ _ | refine z1_ ?_ | refine z2_ ?_ _)); exact BK213.out)) : gb213 ≠ gb261))
                             have n12_ := Aside0.mk ((by rw [hg]; exact Nat.ne_of_gt (blk_lt (g := gb213) (o := .cells #[.int .i64 a0_0, .slice A0_1 l0_1.length c0_1] 24 (0, 0)) (by (with_reducible repeat (first | refine z0_ ?_ _ | refine z1_ ?_ | refine z2_ ?_ _)); exact BK213.out)) : gb261 ≠ gb213))
                             have n13_ := Aside0.mk ((by rw [hg]; exact Nat.ne_of_lt (blk_lt (g := gb218) (o := .cells #[.int .i64 x219000_21, .slice A0_1 l0_1.length c0_1] 24 (0, 0)) (by (with_reducible repeat (first | refine z0_ ?_ _ | refine z1_ ?_ | refine z2_ ?_ _)); exact BK218.out)) : gb218 ≠ gb261))
                             have n14_ := Aside0.mk ((by rw [hg]; exact Nat.ne_of_gt (blk_lt (g := gb218) (o := .cells #[.int .i64 x219000_21, .slice A0_1 l0_1.length c0_1] 24 (0, 0)) (by (with_reducible repeat (first | refine z0_ ?_ _ | refine z1_ ?_ | refine z2_ ?_ _)); exact BK218.out)) : gb261 ≠ gb218))
                             have n15_ := Aside0.mk ((by rw [hg]; exact Nat.ne_of_lt (blk_lt (g := gb226) (o := .cells #[.bool t220, .int .i64 t221, .slice Ao41 t222.length co41] 30 (0, 0)) (by (with_reducible repeat (first | refine z0_ ?_ _ | refine z1_ ?_ | refine z2_ ?_ _)); exact BK226.out)) : gb226 ≠ gb261))
                             have n16_ := Aside0.mk ((by rw [hg]; exact Nat.ne_of_gt (blk_lt (g := gb226) (o := .cells #[.bool t220, .int .i64 t221, .slice Ao41 t222.length co41] 30 (0, 0)) (by (with_reducible repeat (first | refine z0_ ?_ _ | refine z1_ ?_ | refine z2_ ?_ _)); exact BK226.out)) : gb261 ≠ gb226))
                             have n17_ := Aside0.mk ((by rw [hg]; exact Nat.ne_of_lt (blk_lt (g := gb234) (o := .cells #[.bool t228, .int .i64 t229, .slice Ao49 t230.length co49] 30 (0, 0)) (by (with_reducible repeat (first | refine z0_ ?_ _ | refine z1_ ?_ | refine z2_ ?_ _)); exact BK234.out)) : gb234 ≠ gb261))
                             have n18_ := Aside0.mk ((by rw [hg]; exact Nat.ne_of_gt (blk_lt (g := gb234) (o := .cells #[.bool t228, .int .i64 t229, .slice Ao49 t230.length co49] 30 (0, 0)) (by (with_reducible repeat (first | refine z0_ ?_ _ | refine z1_ ?_ | refine z2_ ?_ _)); exact BK234.out)) : gb261 ≠ gb234))
                             clear HO_227002
                             clear HO_235002
                             clear HO246
                             clear BK213
                             clear BK218
                             clear BK226
                             clear BK234
                             clear HB
                             have HO_227002 := n0_
                             have HO_235002 := n1_
                             have HO246 := n2_
                             have BK213 := n3_
                             have BK218 := n4_
                             have BK226 := n5_
                             have BK234 := n6_
                             have HB := n7_
                             have BK261 := n8_
                             have GW261 := n9_
                             have GE261 := n10_
                             have NB213_261 := n11_
                             have NB261_213 := n12_
                             have NB218_261 := n13_
                             have NB261_218 := n14_
                             have NB226_261 := n15_
                             have NB261_226 := n16_
                             have NB234_261 := n17_
                             have NB261_234 := n18_
                             clear n0_ n1_ n2_ n3_ n4_ n5_ n6_ n7_ n8_ n9_ n10_ n11_ n12_ n13_ n14_ n15_ n16_ n17_ n18_
                             clear hb hbox hg
                             refine hK.out _ _ ⟨(z23_ BK213.out 0).trans rfl, (z23_ BK213.out 1).trans rfl⟩ (fun hHeld => ?_)
                             clear hK K
                             refine norm_ (a' := ?_) ?_ ?_
                             rotate_left
                             ·show Act.put _ (some 15) _ = _
                              simp only [Act.put, z15_, z16_, z17_, i64_w, i32_w]
                              rfl
                             exact norm_ (by first | (simp only [putAll, Act.put, z15_, z16_, z17_]; done) | (simp only [putAll, Act.put, z15_, z16_, z17_]; rfl)) (hJ2_7_20 (v238, v245, gb261) _ ⟨hHeld, (by (with_reducible repeat (first | apply z9_ | apply z7_ | apply z8_)); exact HO246.out), (by (with_reducible repeat (first | apply z9_ | apply z7_ | apply z8_)); exact HO_227002.out), (by (with_reducible repeat (first | apply z9_ | apply z7_ | apply z8_)); exact HO_235002.out), (by (with_reducible repeat (first | refine z0_ ?_ _ | refine z1_ ?_ | refine z2_ ?_ _)); exact BK213.out), (by (with_reducible repeat (first | refine z0_ ?_ _ | refine z1_ ?_ | refine z2_ ?_ _)); exact BK218.out), (by (with_reducible repeat (first | refine z0_ ?_ _ | refine z1_ ?_ | refine z2_ ?_ _)); exact BK226.out), (by (with_reducible repeat (first | refine z0_ ?_ _ | refine z1_ ?_ | refine z2_ ?_ _)); exact BK234.out), (by (with_reducible repeat (first | refine z0_ ?_ _ | refine z1_ ?_ | refine z2_ ?_ _)); exact BK261.out), GW261.out, GE261.out, NB213_261.out, NB261_213.out, NB218_261.out, NB261_218.out, NB226_261.out, NB261_226.out, NB234_261.out, NB261_234.out, (by repeat (first | (with_reducible first | exact HB.out | apply z6_ | apply z4_ | apply z5_ | refine z3_ ?_ GE213.out | refine z3_ ?_ GE218.out | refine z3_ ?_ GE226.out | refine z3_ ?_ GE234.out | refine z3_ ?_ GE261.out) | exact HB.out))⟩)
                          ·skip
                           rintro ⟨v238, v245, gb261⟩ w94 ⟨hS_, h0_, h1_, h2_, h3_, h4_, h5_, h6_, h7_, h8_, h9_, h10_, h11_, h12_, h13_, h14_, h15_, h16_, h17_, h18_⟩
                           have n0_ : Aside0 (Kd.R k39 39 w94 w.heap.size (fun _ => True) v245 y244) := ⟨h0_⟩
                           have n1_ : Aside0 (Kd.R (Kd.int .i64) 3 w94 w.heap.size (fun k_ => some k_ ≠ (.slice Ao49 t230.length co49 : Value).ownBlock) (.slice Ao41 t222.length co41) t222) := ⟨h1_⟩
                           have n2_ : Aside0 (Kd.R (Kd.int .i64) 3 w94 w.heap.size (fun k_ => some k_ ≠ (.slice Ao41 t222.length co41 : Value).ownBlock) (.slice Ao49 t230.length co49) t230) := ⟨h2_⟩
                           have n3_ : Aside0 (w94.heap[gb213]? = some (.cells #[.int .i64 a0_0, .slice A0_1 l0_1.length c0_1] 24 (0, 0))) := ⟨h3_⟩
                           have n4_ : Aside0 (w94.heap[gb218]? = some (.cells #[.int .i64 x219000_21, .slice A0_1 l0_1.length c0_1] 24 (0, 0))) := ⟨h4_⟩
                           have n5_ : Aside0 (w94.heap[gb226]? = some (.cells #[.bool t220, .int .i64 t221, .slice Ao41 t222.length co41] 30 (0, 0))) := ⟨h5_⟩
                           have n6_ : Aside0 (w94.heap[gb234]? = some (.cells #[.bool t228, .int .i64 t229, .slice Ao49 t230.length co49] 30 (0, 0))) := ⟨h6_⟩
                           have n7_ : Aside0 (w94.heap[gb261]? = some (.cells #[.bool false, .int .i64 0, .slice none 0 0] 30 (0, 0))) := ⟨h7_⟩
                           have n8_ : Aside0 (w.heap.size ≤ gb261) := ⟨h8_⟩
                           have n9_ : Aside0 (w.heap.size ≤ gb261) := ⟨h9_⟩
                           have n10_ : Aside0 (gb213 ≠ gb261) := ⟨h10_⟩
                           have n11_ : Aside0 (gb261 ≠ gb213) := ⟨h11_⟩
                           have n12_ : Aside0 (gb218 ≠ gb261) := ⟨h12_⟩
                           have n13_ : Aside0 (gb261 ≠ gb218) := ⟨h13_⟩
                           have n14_ : Aside0 (gb226 ≠ gb261) := ⟨h14_⟩
                           have n15_ : Aside0 (gb261 ≠ gb226) := ⟨h15_⟩
                           have n16_ : Aside0 (gb234 ≠ gb261) := ⟨h16_⟩
                           have n17_ : Aside0 (gb261 ≠ gb234) := ⟨h17_⟩
                           have n18_ : Aside0 (Below w.heap.size w w94) := ⟨h18_⟩
                           clear HO_227002
                           clear HO_235002
                           clear BK213
                           clear BK218
                           clear BK226
                           clear BK234
                           clear HB
                           clear h0_ h1_ h2_ h3_ h4_ h5_ h6_ h7_ h8_ h9_ h10_ h11_ h12_ h13_ h14_ h15_ h16_ h17_ h18_
                           have HO246 := n0_
                           have HO_227002 := n1_
                           have HO_235002 := n2_
                           have BK213 := n3_
                           have BK218 := n4_
                           have BK226 := n5_
                           have BK234 := n6_
                           have BK261 := n7_
                           have GW261 := n8_
                           have GE261 := n9_
                           have NB213_261 := n10_
                           have NB261_213 := n11_
                           have NB218_261 := n12_
                           have NB261_218 := n13_
                           have NB226_261 := n14_
                           have NB261_226 := n15_
                           have NB234_261 := n16_
                           have NB261_234 := n17_
                           have HB := n18_
                           clear n0_ n1_ n2_ n3_ n4_ n5_ n6_ n7_ n8_ n9_ n10_ n11_ n12_ n13_ n14_ n15_ n16_ n17_ n18_
                           have hHeld : w94.cell? ⟨gb213, 0, none⟩ = some (.int .i64 a0_0) ∧ w94.cell? ⟨gb213, 1, none⟩ = some (.slice A0_1 l0_1.length c0_1) := hS_
                           refine norm_ (a' := ?_) ?_ ?_
                           rotate_left
                           ·simp only [putAll, Act.put, z15_, z16_, z17_]
                            rfl
                           refine one_ (i := 13) (N := some 109) #[true, true, true, true, true, true, true, true, true, true, true, true, true, true, false, false, false, false, false, false, true, false, false, false] rfl rfl (one_of HT_.out (by kernel_rfl)) (by decide) (fun K hK => ?_)
                           refine Kd.R_append_rows_step k39 (w0 := w) w.heap.size (by rfl) (.tmp 103) (.tmp 108) 22 39 (.agg #[(.string ⟨#[]⟩), (.int .i64 0), (.int .i64 0), (.int .i64 0), (.int .i64 0), (.int .i64 0), (.int .i64 0), (.int .i64 0), (.int .i64 0), (.int .i64 0), (.int .i64 0)]) 96 rfl Tryd.underlying22 info39 rfl (by decide) (by omega) v245 y244 y247 _ _ _ (fun _ => True) (fun _ => False) rfl rfl ?aO ?aR (fun _ _ h => h) (fun _ h => h.elim) ?aF ?aB ?aS ?aL ?_
                           (case aR => repeat (first | exact (Kd.C_below HR250.out HB.out) | (with_reducible refine Kd.C_alloc ?_ _) | (with_reducible refine Kd.C_drewN ?_ _) | (with_reducible refine Kd.C_drew ?_)))
                           (case aB => exact (by repeat (first | (with_reducible first | exact HB.out | apply z6_ | apply z4_ | apply z5_ | refine z3_ ?_ GE213.out | refine z3_ ?_ GE218.out | refine z3_ ?_ GE226.out | refine z3_ ?_ GE234.out | refine z3_ ?_ GE261.out) | exact HB.out)))
                           (case aF => exact (fun _ _ => trivial))
                           (case aO => exact (by (with_reducible repeat (first | apply z9_ | apply z7_ | apply z8_)); exact HO246.out))
                           (case aS => exact (below_size (by repeat (first | (with_reducible first | exact HB.out | apply z6_ | apply z4_ | apply z5_ | refine z3_ ?_ GE213.out | refine z3_ ?_ GE218.out | refine z3_ ?_ GE226.out | refine z3_ ?_ GE234.out | refine z3_ ?_ GE261.out) | exact HB.out))))
                           (case aL => have := LMc78.out; omega)
                           intro v252 w95 ho hb hg hat
                           rw [← Ny251.out] at ho
                           have n0_ := Aside0.mk (Kd.R_over' (by (with_reducible repeat (first | apply z9_ | apply z7_ | apply z8_)); exact HO_227002.out) (Kd.R_typed (by (with_reducible repeat (first | apply z9_ | apply z7_ | apply z8_)); exact HO246.out)) (by decide) hg)
                           have n1_ := Aside0.mk (Kd.R_over' (by (with_reducible repeat (first | apply z9_ | apply z7_ | apply z8_)); exact HO_235002.out) (Kd.R_typed (by (with_reducible repeat (first | apply z9_ | apply z7_ | apply z8_)); exact HO246.out)) (by decide) hg)
                           have n2_ := Aside0.mk (blk_grown (g := gb213) (o := .cells #[.int .i64 a0_0, .slice A0_1 l0_1.length c0_1] 24 (0, 0)) (by (with_reducible repeat (first | refine z0_ ?_ _ | refine z1_ ?_ | refine z2_ ?_ _)); exact BK213.out) hg (Kd.R_ne HO246.out BK213.out (by decide)))
                           have n3_ := Aside0.mk (blk_grown (g := gb218) (o := .cells #[.int .i64 x219000_21, .slice A0_1 l0_1.length c0_1] 24 (0, 0)) (by (with_reducible repeat (first | refine z0_ ?_ _ | refine z1_ ?_ | refine z2_ ?_ _)); exact BK218.out) hg (Kd.R_ne HO246.out BK218.out (by decide)))
                           have n4_ := Aside0.mk (blk_grown (g := gb226) (o := .cells #[.bool t220, .int .i64 t221, .slice Ao41 t222.length co41] 30 (0, 0)) (by (with_reducible repeat (first | refine z0_ ?_ _ | refine z1_ ?_ | refine z2_ ?_ _)); exact BK226.out) hg (Kd.R_ne HO246.out BK226.out (by decide)))
                           have n5_ := Aside0.mk (blk_grown (g := gb234) (o := .cells #[.bool t228, .int .i64 t229, .slice Ao49 t230.length co49] 30 (0, 0)) (by (with_reducible repeat (first | refine z0_ ?_ _ | refine z1_ ?_ | refine z2_ ?_ _)); exact BK234.out) hg (Kd.R_ne HO246.out BK234.out (by decide)))
                           have n6_ := Aside0.mk (blk_grown (g := gb261) (o := .cells #[.bool false, .int .i64 0, .slice none 0 0] 30 (0, 0)) (by (with_reducible repeat (first | refine z0_ ?_ _ | refine z1_ ?_ | refine z2_ ?_ _)); exact BK261.out) hg (Kd.R_ne HO246.out BK261.out (by decide)))
                           have n7_ := Aside0.mk (hb)
                           have n8_ := Aside0.mk (ho)
                           clear HO_227002
                           clear HO_235002
                           clear BK213
                           clear BK218
                           clear BK226
                           clear BK234
                           clear BK261
                           clear HB
                           clear HO246
                           have HO_227002 := n0_
                           have HO_235002 := n1_
                           have BK213 := n2_
                           have BK218 := n3_
                           have BK226 := n4_
                           have BK234 := n5_
                           have BK261 := n6_
                           have HB := n7_
                           have HO253 := n8_
                           clear n0_ n1_ n2_ n3_ n4_ n5_ n6_ n7_ n8_
                           clear ho hb hg hat
                           obtain ⟨Ao96, co96, eo96⟩ := Kd.R_slice HO253.out
                           (first | subst eo96 | (injection eo96 with f1_ f2_ f3_; have f4_ := f1_.symm; have f5_ := f3_.symm; clear f1_ f2_ f3_; subst f4_; subst f5_))
                           refine hK.out _ _ ⟨(z23_ BK213.out 0).trans rfl, (z23_ BK213.out 1).trans rfl⟩ (fun hHeld => ?_)
                           clear hK K
                           refine norm_ (a' := ?_) ?_ ?_
                           rotate_left
                           ·show Act.put _ (some 109) _ = _
                            simp only [Act.put, z15_, z16_, z17_, i64_w, i32_w]
                            rfl
                           refine pure_ (i := 14) (N := some 110) (v := ?_) (a' := ?_) #[true, true, true, true, true, true, true, true, true, true, true, true, true, true, true, false, false, false, false, false, true, false, false, false] rfl rfl (any_of HT_.out (by kernel_rfl)) (fun _ _ _ h => h) (Or.inl ⟨by rfl, ?_⟩) ?_ ?_
                           rotate_left
                           ·intro w'
                            go_simp
                            with_reducible rfl
                           rotate_left
                           ·simp only [Act.put, z15_, z16_, z17_, i64_w, i32_w]
                            rfl
                           exact norm_ (by first | (simp only [putAll, Act.put, z15_, z16_, z17_]; done) | (simp only [putAll, Act.put, z15_, z16_, z17_]; rfl)) (hJ2_7_13_20 (v238, v245, .slice Ao96 y251.length co96, gb261) _ ⟨hHeld, (by (with_reducible repeat (first | apply z9_ | apply z7_ | apply z8_)); exact HO253.out), (by (with_reducible repeat (first | apply z9_ | apply z7_ | apply z8_)); exact HO_227002.out), (by (with_reducible repeat (first | apply z9_ | apply z7_ | apply z8_)); exact HO_235002.out), (by (with_reducible repeat (first | refine z0_ ?_ _ | refine z1_ ?_ | refine z2_ ?_ _)); exact BK213.out), (by (with_reducible repeat (first | refine z0_ ?_ _ | refine z1_ ?_ | refine z2_ ?_ _)); exact BK218.out), (by (with_reducible repeat (first | refine z0_ ?_ _ | refine z1_ ?_ | refine z2_ ?_ _)); exact BK226.out), (by (with_reducible repeat (first | refine z0_ ?_ _ | refine z1_ ?_ | refine z2_ ?_ _)); exact BK234.out), (by (with_reducible repeat (first | refine z0_ ?_ _ | refine z1_ ?_ | refine z2_ ?_ _)); exact BK261.out), GW261.out, GE261.out, NB213_261.out, NB261_213.out, NB218_261.out, NB261_218.out, NB226_261.out, NB261_226.out, NB234_261.out, NB261_234.out, (by repeat (first | (with_reducible first | exact HB.out | apply z6_ | apply z4_ | apply z5_ | refine z3_ ?_ GE213.out | refine z3_ ?_ GE218.out | refine z3_ ?_ GE226.out | refine z3_ ?_ GE234.out | refine z3_ ?_ GE261.out) | exact HB.out))⟩)
                         ·skip
                          rintro ⟨v238, v245, v252⟩ w95 ⟨hS_, h0_, h1_, h2_, h3_, h4_, h5_, h6_, h7_⟩
                          have n0_ : Aside0 (Kd.R k39 39 w95 w.heap.size (fun _ => True) v252 y251) := ⟨h0_⟩
                          have n1_ : Aside0 (Kd.R (Kd.int .i64) 3 w95 w.heap.size (fun k_ => some k_ ≠ (.slice Ao49 t230.length co49 : Value).ownBlock) (.slice Ao41 t222.length co41) t222) := ⟨h1_⟩
                          have n2_ : Aside0 (Kd.R (Kd.int .i64) 3 w95 w.heap.size (fun k_ => some k_ ≠ (.slice Ao41 t222.length co41 : Value).ownBlock) (.slice Ao49 t230.length co49) t230) := ⟨h2_⟩
                          have n3_ : Aside0 (w95.heap[gb213]? = some (.cells #[.int .i64 a0_0, .slice A0_1 l0_1.length c0_1] 24 (0, 0))) := ⟨h3_⟩
                          have n4_ : Aside0 (w95.heap[gb218]? = some (.cells #[.int .i64 x219000_21, .slice A0_1 l0_1.length c0_1] 24 (0, 0))) := ⟨h4_⟩
                          have n5_ : Aside0 (w95.heap[gb226]? = some (.cells #[.bool t220, .int .i64 t221, .slice Ao41 t222.length co41] 30 (0, 0))) := ⟨h5_⟩
                          have n6_ : Aside0 (w95.heap[gb234]? = some (.cells #[.bool t228, .int .i64 t229, .slice Ao49 t230.length co49] 30 (0, 0))) := ⟨h6_⟩
                          have n7_ : Aside0 (Below w.heap.size w w95) := ⟨h7_⟩
                          clear HO_227002
                          clear HO_235002
                          clear BK213
                          clear BK218
                          clear BK226
                          clear BK234
                          clear HB
                          clear h0_ h1_ h2_ h3_ h4_ h5_ h6_ h7_
                          have HO253 := n0_
                          have HO_227002 := n1_
                          have HO_235002 := n2_
                          have BK213 := n3_
                          have BK218 := n4_
                          have BK226 := n5_
                          have BK234 := n6_
                          have HB := n7_
                          clear n0_ n1_ n2_ n3_ n4_ n5_ n6_ n7_
                          have hHeld : w95.cell? ⟨gb213, 0, none⟩ = some (.int .i64 a0_0) ∧ w95.cell? ⟨gb213, 1, none⟩ = some (.slice A0_1 l0_1.length c0_1) := hS_
                          obtain ⟨Ao96, co96, eo96⟩ := Kd.R_slice HO253.out
                          (first | subst eo96 | (injection eo96 with f1_ f2_ f3_; have f4_ := f1_.symm; have f5_ := f3_.symm; clear f1_ f2_ f3_; subst f4_; subst f5_))
                          refine norm_ (a' := ?_) ?_ ?_
                          rotate_left
                          ·simp only [putAll, Act.put, z15_, z16_, z17_]
                           rfl
                          refine two_ (i := 15) (j := 20) (Ni := some 111) (Nj := some 15) #[true, true, true, true, true, true, true, true, true, true, true, true, true, true, true, true, false, false, false, false, false, false, false, false] #[true, true, true, true, true, true, true, true, true, true, true, true, true, true, true, false, false, false, false, false, true, false, false, false] rfl rfl rfl rfl (two_of HT_.out (by kernel_rfl)) (by decide) (by decide) (fun K hK => ?_) (fun K hK => ?_)
                          ·skip
                           refine goes_ Tryd.func11 (by kernel_rfl) rfl #[.agg #[.int .i64 a0_0, .slice Ao96 y251.length co96]] (by rfl) rfl rfl (by (try simp only [List.map_toArray, List.map_cons, List.map_nil]); first | done | rfl | (simp only [List.length_drop, List.length_take]; rfl)) ?_
                           with_reducible refine (gap_Least.calls a0_0 _ _ y251 t254 t255 t256 t257 t260 _ ?side1 ?side2 A79.out).mono ?_
                           (case side1 => repeat (first | exact (Kd.R_reads' HO253.out).2.2 | (with_reducible refine Kd.C_alloc ?_ _) | (with_reducible refine Kd.C_drewN ?_ _) | (with_reducible refine Kd.C_drew ?_)))
                           (case side2 => exact (Kd.R_reads' HO253.out).2.1)
                           rintro e w97 ⟨v258, rfl, ho0, hb⟩
                           refine ⟨_, rfl, ?_⟩
                           have n0_ := Aside0.mk (Kd.R_elder' (by (with_reducible repeat (first | apply z9_ | apply z7_ | apply z8_)); exact HO_227002.out) (Kd.R_base ho0) hb)
                           have n1_ := Aside0.mk (Kd.R_elder' (by (with_reducible repeat (first | apply z9_ | apply z7_ | apply z8_)); exact HO_235002.out) (Kd.R_base ho0) hb)
                           have n2_ := Aside0.mk (z10_ (by (with_reducible repeat (first | apply z9_ | apply z7_ | apply z8_)); exact HO253.out) hb)
                           have n3_ := Aside0.mk (Kd.R_lower (Kd.R_new' (Kd.R_new' ho0 (Kd.R_lt (by (with_reducible repeat (first | apply z9_ | apply z7_ | apply z8_)); exact HO_227002.out))) (Kd.R_lt (by (with_reducible repeat (first | apply z9_ | apply z7_ | apply z8_)); exact HO_235002.out))) (below_size (by repeat (first | (with_reducible first | exact HB.out | apply z6_ | apply z4_ | apply z5_ | refine z3_ ?_ GE213.out | refine z3_ ?_ GE218.out | refine z3_ ?_ GE226.out | refine z3_ ?_ GE234.out) | exact HB.out))))
                           have n4_ := Aside0.mk (z20_ (g := gb213) (o := .cells #[.int .i64 a0_0, .slice A0_1 l0_1.length c0_1] 24 (0, 0)) (by (with_reducible repeat (first | refine z0_ ?_ _ | refine z1_ ?_ | refine z2_ ?_ _)); exact BK213.out) hb)
                           have n5_ := Aside0.mk (z20_ (g := gb218) (o := .cells #[.int .i64 x219000_21, .slice A0_1 l0_1.length c0_1] 24 (0, 0)) (by (with_reducible repeat (first | refine z0_ ?_ _ | refine z1_ ?_ | refine z2_ ?_ _)); exact BK218.out) hb)
                           have n6_ := Aside0.mk (z20_ (g := gb226) (o := .cells #[.bool t220, .int .i64 t221, .slice Ao41 t222.length co41] 30 (0, 0)) (by (with_reducible repeat (first | refine z0_ ?_ _ | refine z1_ ?_ | refine z2_ ?_ _)); exact BK226.out) hb)
                           have n7_ := Aside0.mk (z20_ (g := gb234) (o := .cells #[.bool t228, .int .i64 t229, .slice Ao49 t230.length co49] 30 (0, 0)) (by (with_reducible repeat (first | refine z0_ ?_ _ | refine z1_ ?_ | refine z2_ ?_ _)); exact BK234.out) hb)
                           have n8_ := Aside0.mk (z24_ (by repeat (first | (with_reducible first | exact HB.out | apply z6_ | apply z4_ | apply z5_ | refine z3_ ?_ GE213.out | refine z3_ ?_ GE218.out | refine z3_ ?_ GE226.out | refine z3_ ?_ GE234.out) | exact HB.out)) hb)
                           clear HO_227002
                           clear HO_235002
                           clear HO253
                           clear BK213
                           clear BK218
                           clear BK226
                           clear BK234
                           clear HB
                           have HO_227002 := n0_
                           have HO_235002 := n1_
                           have HO253 := n2_
                           have HO259 := n3_
                           have BK213 := n4_
                           have BK218 := n5_
                           have BK226 := n6_
                           have BK234 := n7_
                           have HB := n8_
                           clear n0_ n1_ n2_ n3_ n4_ n5_ n6_ n7_ n8_
                           (try clear hb)
                           (try clear hb2)
                           (try clear hk)
                           (try clear hi)
                           (try clear ho0)
                           refine hK.out _ _ ⟨(z23_ BK213.out 0).trans rfl, (z23_ BK213.out 1).trans rfl⟩ (fun hHeld => ?_)
                           clear hK K
                           refine norm_ (a' := ?_) ?_ ?_
                           rotate_left
                           ·show Act.put _ (some 111) _ = _
                            simp only [Act.put, z15_, z16_, z17_, i64_w, i32_w]
                            rfl
                           refine pure_ (i := 16) (N := some 95) (v := ?_) (a' := ?_) #[true, true, true, true, true, true, true, true, true, true, true, true, true, true, true, true, true, false, false, false, false, false, false, false] rfl rfl (any_of HT_.out (by kernel_rfl)) (fun _ _ _ h => h) (Or.inl ⟨by rfl, ?_⟩) ?_ ?_
                           rotate_left
                           ·intro w'
                            go_simp
                            with_reducible rfl
                           rotate_left
                           ·simp only [Act.put, z15_, z16_, z17_, i64_w, i32_w]
                            rfl
                           refine pure_ (i := 17) (N := some 112) (v := ?_) (a' := ?_) #[true, true, true, true, true, true, true, true, true, true, true, true, true, true, true, true, true, true, false, false, false, false, false, false] rfl rfl (any_of HT_.out (by kernel_rfl)) (fun _ _ _ h => h) (Or.inl ⟨by rfl, ?_⟩) ?_ ?_
                           rotate_left
                           ·intro w'
                            go_simp
                            with_reducible rfl
                           rotate_left
                           ·simp only [Act.put, z15_, z16_, z17_, i64_w, i32_w]
                            rfl
                           refine pure_ (i := 18) (N := some 113) (v := ?_) (a' := ?_) #[true, true, true, true, true, true, true, true, true, true, true, true, true, true, true, true, true, true, true, false, false, false, false, false] rfl rfl (any_of HT_.out (by kernel_rfl)) (fun _ _ _ h => h) (Or.inl ⟨by rfl, ?_⟩) ?_ ?_
                           rotate_left
                           ·intro w'
                            go_simp
                            with_reducible rfl
                           rotate_left
                           ·simp only [Act.put, z15_, z16_, z17_, i64_w, i32_w]
                            rfl
                           refine pure_ (i := 19) (N := some 114) (v := ?_) (a' := ?_) #[true, true, true, true, true, true, true, true, true, true, true, true, true, true, true, true, true, true, true, true, false, false, false, false] rfl rfl (any_of HT_.out (by kernel_rfl)) (fun _ _ _ h => h) (Or.inl ⟨by rfl, ?_⟩) ?_ ?_
                           rotate_left
                           ·intro w'
                            go_simp
                            with_reducible rfl
                           rotate_left
                           ·simp only [Act.put, z15_, z16_, z17_, i64_w, i32_w]
                            rfl
                           exact norm_ (by first | (simp only [putAll, Act.put, z15_, z16_, z17_]; done) | (simp only [putAll, Act.put, z15_, z16_, z17_]; rfl)) (hJ2_7_13_15 (v238, v245, .slice Ao96 y251.length co96, v258) _ ⟨hHeld, (by (with_reducible repeat (first | apply z9_ | apply z7_ | apply z8_)); exact HO253.out), (by (with_reducible repeat (first | apply z9_ | apply z7_ | apply z8_)); exact Kd.R_mono HO259.out (fun _ hk => ⟨hk.1.2, hk.2⟩)), (by (with_reducible repeat (first | apply z9_ | apply z7_ | apply z8_)); exact Kd.R_mono HO_227002.out (fun _ hk => ⟨hk.2, hk.1⟩)), (by (with_reducible repeat (first | apply z9_ | apply z7_ | apply z8_)); exact Kd.R_mono HO_235002.out (fun _ hk => ⟨hk.2, hk.1⟩)), (by (with_reducible repeat (first | refine z0_ ?_ _ | refine z1_ ?_ | refine z2_ ?_ _)); exact BK213.out), (by (with_reducible repeat (first | refine z0_ ?_ _ | refine z1_ ?_ | refine z2_ ?_ _)); exact BK218.out), (by (with_reducible repeat (first | refine z0_ ?_ _ | refine z1_ ?_ | refine z2_ ?_ _)); exact BK226.out), (by (with_reducible repeat (first | refine z0_ ?_ _ | refine z1_ ?_ | refine z2_ ?_ _)); exact BK234.out), (by repeat (first | (with_reducible first | exact HB.out | apply z6_ | apply z4_ | apply z5_ | refine z3_ ?_ GE213.out | refine z3_ ?_ GE218.out | refine z3_ ?_ GE226.out | refine z3_ ?_ GE234.out) | exact HB.out))⟩)
                          ·skip
                           refine box_step ?hg (N := 15) ?hd (cs := #[.bool false, .int .i64 0, .slice none 0 0]) (t := 30) ?hr ?_; (case hd => rfl); (case hg => rfl); (case hr => first | (go_simp; done) | (go_simp; rfl))
                           intro gb261 hg w97 hbox hb
                           have n0_ := Aside0.mk (z10_ (by (with_reducible repeat (first | apply z9_ | apply z7_ | apply z8_)); exact HO_227002.out) hb)
                           have n1_ := Aside0.mk (z10_ (by (with_reducible repeat (first | apply z9_ | apply z7_ | apply z8_)); exact HO_235002.out) hb)
                           have n2_ := Aside0.mk (z10_ (by (with_reducible repeat (first | apply z9_ | apply z7_ | apply z8_)); exact HO253.out) hb)
                           have n3_ := Aside0.mk (z20_ (g := gb213) (o := .cells #[.int .i64 a0_0, .slice A0_1 l0_1.length c0_1] 24 (0, 0)) (by (with_reducible repeat (first | refine z0_ ?_ _ | refine z1_ ?_ | refine z2_ ?_ _)); exact BK213.out) hb)
                           have n4_ := Aside0.mk (z20_ (g := gb218) (o := .cells #[.int .i64 x219000_21, .slice A0_1 l0_1.length c0_1] 24 (0, 0)) (by (with_reducible repeat (first | refine z0_ ?_ _ | refine z1_ ?_ | refine z2_ ?_ _)); exact BK218.out) hb)
                           have n5_ := Aside0.mk (z20_ (g := gb226) (o := .cells #[.bool t220, .int .i64 t221, .slice Ao41 t222.length co41] 30 (0, 0)) (by (with_reducible repeat (first | refine z0_ ?_ _ | refine z1_ ?_ | refine z2_ ?_ _)); exact BK226.out) hb)
                           have n6_ := Aside0.mk (z20_ (g := gb234) (o := .cells #[.bool t228, .int .i64 t229, .slice Ao49 t230.length co49] 30 (0, 0)) (by (with_reducible repeat (first | refine z0_ ?_ _ | refine z1_ ?_ | refine z2_ ?_ _)); exact BK234.out) hb)
                           have n7_ := Aside0.mk (z24_ (by repeat (first | (with_reducible first | exact HB.out | apply z6_ | apply z4_ | apply z5_ | refine z3_ ?_ GE213.out | refine z3_ ?_ GE218.out | refine z3_ ?_ GE226.out | refine z3_ ?_ GE234.out) | exact HB.out)) hb)
                           have n8_ := Aside0.mk (hbox)
                           have n9_ := Aside0.mk ((by rw [hg]; exact (below_size (by repeat (first | (with_reducible first | exact HB.out | apply z6_ | apply z4_ | apply z5_ | refine z3_ ?_ GE213.out | refine z3_ ?_ GE218.out | refine z3_ ?_ GE226.out | refine z3_ ?_ GE234.out) | exact HB.out))) : w.heap.size ≤ gb261))
                           have n10_ := Aside0.mk ((by rw [hg]; exact (below_size (by repeat (first | (with_reducible first | exact HB.out | apply z6_ | apply z4_ | apply z5_ | refine z3_ ?_ GE213.out | refine z3_ ?_ GE218.out | refine z3_ ?_ GE226.out | refine z3_ ?_ GE234.out) | exact HB.out))) : w.heap.size ≤ gb261))
                           have n11_ := Aside0.mk ((by rw [hg]; exact Nat.ne_of_lt (blk_lt (g := gb213) (o := .cells #[.int .i64 a0_0, .slice A0_1 l0_1.length c0_1] 24 (0, 0)) (by (with_reducible repeat (first | refine z0_ ?_ _ | refine z1_ ?_ | refine z2_ ?_ _)); exact BK213.out)) : gb213 ≠ gb261))
                           have n12_ := Aside0.mk ((by rw [hg]; exact Nat.ne_of_gt (blk_lt (g := gb213) (o := .cells #[.int .i64 a0_0, .slice A0_1 l0_1.length c0_1] 24 (0, 0)) (by (with_reducible repeat (first | refine z0_ ?_ _ | refine z1_ ?_ | refine z2_ ?_ _)); exact BK213.out)) : gb261 ≠ gb213))
                           have n13_ := Aside0.mk ((by rw [hg]; exact Nat.ne_of_lt (blk_lt (g := gb218) (o := .cells #[.int .i64 x219000_21, .slice A0_1 l0_1.length c0_1] 24 (0, 0)) (by (with_reducible repeat (first | refine z0_ ?_ _ | refine z1_ ?_ | refine z2_ ?_ _)); exact BK218.out)) : gb218 ≠ gb261))
                           have n14_ := Aside0.mk ((by rw [hg]; exact Nat.ne_of_gt (blk_lt (g := gb218) (o := .cells #[.int .i64 x219000_21, .slice A0_1 l0_1.length c0_1] 24 (0, 0)) (by (with_reducible repeat (first | refine z0_ ?_ _ | refine z1_ ?_ | refine z2_ ?_ _)); exact BK218.out)) : gb261 ≠ gb218))
                           have n15_ := Aside0.mk ((by rw [hg]; exact Nat.ne_of_lt (blk_lt (g := gb226) (o := .cells #[.bool t220, .int .i64 t221, .slice Ao41 t222.length co41] 30 (0, 0)) (by (with_reducible repeat (first | refine z0_ ?_ _ | refine z1_ ?_ | refine z2_ ?_ _)); exact BK226.out)) : gb226 ≠ gb261))
                           have n16_ := Aside0.mk ((by rw [hg]; exact Nat.ne_of_gt (blk_lt (g := gb226) (o := .cells #[.bool t220, .int .i64 t221, .slice Ao41 t222.length co41] 30 (0, 0)) (by (with_reducible repeat (first | refine z0_ ?_ _ | refine z1_ ?_ | refine z2_ ?_ _)); exact BK226.out)) : gb261 ≠ gb226))
                           have n17_ := Aside0.mk ((by rw [hg]; exact Nat.ne_of_lt (blk_lt (g := gb234) (o := .cells #[.bool t228, .int .i64 t229, .slice Ao49 t230.length co49] 30 (0, 0)) (by (with_reducible repeat (first | refine z0_ ?_ _ | refine z1_ ?_ | refine z2_ ?_ _)); exact BK234.out)) : gb234 ≠ gb261))
                           have n18_ := Aside0.mk ((by rw [hg]; exact Nat.ne_of_gt (blk_lt (g := gb234) (o := .cells #[.bool t228, .int .i64 t229, .slice Ao49 t230.length co49] 30 (0, 0)) (by (with_reducible repeat (first | refine z0_ ?_ _ | refine z1_ ?_ | refine z2_ ?_ _)); exact BK234.out)) : gb261 ≠ gb234))
                           clear HO_227002
                           clear HO_235002
                           clear HO253
                           clear BK213
                           clear BK218
                           clear BK226
                           clear BK234
                           clear HB
                           have HO_227002 := n0_
                           have HO_235002 := n1_
                           have HO253 := n2_
                           have BK213 := n3_
                           have BK218 := n4_
                           have BK226 := n5_
                           have BK234 := n6_
                           have HB := n7_
                           have BK261 := n8_
                           have GW261 := n9_
                           have GE261 := n10_
                           have NB213_261 := n11_
                           have NB261_213 := n12_
                           have NB218_261 := n13_
                           have NB261_218 := n14_
                           have NB226_261 := n15_
                           have NB261_226 := n16_
                           have NB234_261 := n17_
                           have NB261_234 := n18_
                           clear n0_ n1_ n2_ n3_ n4_ n5_ n6_ n7_ n8_ n9_ n10_ n11_ n12_ n13_ n14_ n15_ n16_ n17_ n18_
                           clear hb hbox hg
                           refine hK.out _ _ ⟨(z23_ BK213.out 0).trans rfl, (z23_ BK213.out 1).trans rfl⟩ (fun hHeld => ?_)
                           clear hK K
                           refine norm_ (a' := ?_) ?_ ?_
                           rotate_left
                           ·show Act.put _ (some 15) _ = _
                            simp only [Act.put, z15_, z16_, z17_, i64_w, i32_w]
                            rfl
                           exact norm_ (by first | (simp only [putAll, Act.put, z15_, z16_, z17_]; done) | (simp only [putAll, Act.put, z15_, z16_, z17_]; rfl)) (hJ2_7_13_20 (v238, v245, .slice Ao96 y251.length co96, gb261) _ ⟨hHeld, (by (with_reducible repeat (first | apply z9_ | apply z7_ | apply z8_)); exact HO253.out), (by (with_reducible repeat (first | apply z9_ | apply z7_ | apply z8_)); exact HO_227002.out), (by (with_reducible repeat (first | apply z9_ | apply z7_ | apply z8_)); exact HO_235002.out), (by (with_reducible repeat (first | refine z0_ ?_ _ | refine z1_ ?_ | refine z2_ ?_ _)); exact BK213.out), (by (with_reducible repeat (first | refine z0_ ?_ _ | refine z1_ ?_ | refine z2_ ?_ _)); exact BK218.out), (by (with_reducible repeat (first | refine z0_ ?_ _ | refine z1_ ?_ | refine z2_ ?_ _)); exact BK226.out), (by (with_reducible repeat (first | refine z0_ ?_ _ | refine z1_ ?_ | refine z2_ ?_ _)); exact BK234.out), (by (with_reducible repeat (first | refine z0_ ?_ _ | refine z1_ ?_ | refine z2_ ?_ _)); exact BK261.out), GW261.out, GE261.out, NB213_261.out, NB261_213.out, NB218_261.out, NB261_218.out, NB226_261.out, NB261_226.out, NB234_261.out, NB261_234.out, (by repeat (first | (with_reducible first | exact HB.out | apply z6_ | apply z4_ | apply z5_ | refine z3_ ?_ GE213.out | refine z3_ ?_ GE218.out | refine z3_ ?_ GE226.out | refine z3_ ?_ GE234.out | refine z3_ ?_ GE261.out) | exact HB.out))⟩)
                        ·skip
                         rintro ⟨v238, v245, v252, gb261⟩ w96 ⟨hS_, h0_, h1_, h2_, h3_, h4_, h5_, h6_, h7_, h8_, h9_, h10_, h11_, h12_, h13_, h14_, h15_, h16_, h17_, h18_⟩
                         have n0_ : Aside0 (Kd.R k39 39 w96 w.heap.size (fun _ => True) v252 y251) := ⟨h0_⟩
                         have n1_ : Aside0 (Kd.R (Kd.int .i64) 3 w96 w.heap.size (fun k_ => some k_ ≠ (.slice Ao49 t230.length co49 : Value).ownBlock) (.slice Ao41 t222.length co41) t222) := ⟨h1_⟩
                         have n2_ : Aside0 (Kd.R (Kd.int .i64) 3 w96 w.heap.size (fun k_ => some k_ ≠ (.slice Ao41 t222.length co41 : Value).ownBlock) (.slice Ao49 t230.length co49) t230) := ⟨h2_⟩
                         have n3_ : Aside0 (w96.heap[gb213]? = some (.cells #[.int .i64 a0_0, .slice A0_1 l0_1.length c0_1] 24 (0, 0))) := ⟨h3_⟩
                         have n4_ : Aside0 (w96.heap[gb218]? = some (.cells #[.int .i64 x219000_21, .slice A0_1 l0_1.length c0_1] 24 (0, 0))) := ⟨h4_⟩
                         have n5_ : Aside0 (w96.heap[gb226]? = some (.cells #[.bool t220, .int .i64 t221, .slice Ao41 t222.length co41] 30 (0, 0))) := ⟨h5_⟩
                         have n6_ : Aside0 (w96.heap[gb234]? = some (.cells #[.bool t228, .int .i64 t229, .slice Ao49 t230.length co49] 30 (0, 0))) := ⟨h6_⟩
                         have n7_ : Aside0 (w96.heap[gb261]? = some (.cells #[.bool false, .int .i64 0, .slice none 0 0] 30 (0, 0))) := ⟨h7_⟩
                         have n8_ : Aside0 (w.heap.size ≤ gb261) := ⟨h8_⟩
                         have n9_ : Aside0 (w.heap.size ≤ gb261) := ⟨h9_⟩
                         have n10_ : Aside0 (gb213 ≠ gb261) := ⟨h10_⟩
                         have n11_ : Aside0 (gb261 ≠ gb213) := ⟨h11_⟩
                         have n12_ : Aside0 (gb218 ≠ gb261) := ⟨h12_⟩
                         have n13_ : Aside0 (gb261 ≠ gb218) := ⟨h13_⟩
                         have n14_ : Aside0 (gb226 ≠ gb261) := ⟨h14_⟩
                         have n15_ : Aside0 (gb261 ≠ gb226) := ⟨h15_⟩
                         have n16_ : Aside0 (gb234 ≠ gb261) := ⟨h16_⟩
                         have n17_ : Aside0 (gb261 ≠ gb234) := ⟨h17_⟩
                         have n18_ : Aside0 (Below w.heap.size w w96) := ⟨h18_⟩
                         clear HO_227002
                         clear HO_235002
                         clear BK213
                         clear BK218
                         clear BK226
                         clear BK234
                         clear HB
                         clear h0_ h1_ h2_ h3_ h4_ h5_ h6_ h7_ h8_ h9_ h10_ h11_ h12_ h13_ h14_ h15_ h16_ h17_ h18_
                         have HO253 := n0_
                         have HO_227002 := n1_
                         have HO_235002 := n2_
                         have BK213 := n3_
                         have BK218 := n4_
                         have BK226 := n5_
                         have BK234 := n6_
                         have BK261 := n7_
                         have GW261 := n8_
                         have GE261 := n9_
                         have NB213_261 := n10_
                         have NB261_213 := n11_
                         have NB218_261 := n12_
                         have NB261_218 := n13_
                         have NB226_261 := n14_
                         have NB261_226 := n15_
                         have NB234_261 := n16_
                         have NB261_234 := n17_
                         have HB := n18_
                         clear n0_ n1_ n2_ n3_ n4_ n5_ n6_ n7_ n8_ n9_ n10_ n11_ n12_ n13_ n14_ n15_ n16_ n17_ n18_
                         have hHeld : w96.cell? ⟨gb213, 0, none⟩ = some (.int .i64 a0_0) ∧ w96.cell? ⟨gb213, 1, none⟩ = some (.slice A0_1 l0_1.length c0_1) := hS_
                         obtain ⟨Ao97, co97, eo97⟩ := Kd.R_slice HO253.out
                         (first | subst eo97 | (injection eo97 with f1_ f2_ f3_; have f4_ := f1_.symm; have f5_ := f3_.symm; clear f1_ f2_ f3_; subst f4_; subst f5_))
                         refine norm_ (a' := ?_) ?_ ?_
                         rotate_left
                         ·simp only [putAll, Act.put, z15_, z16_, z17_]
                          rfl
                         refine one_ (i := 15) (N := some 111) #[true, true, true, true, true, true, true, true, true, true, true, true, true, true, true, true, false, false, false, false, true, false, false, false] rfl rfl (one_of HT_.out (by kernel_rfl)) (by decide) (fun K hK => ?_)
                         refine goes_ Tryd.func11 (by kernel_rfl) rfl #[.agg #[.int .i64 a0_0, .slice Ao97 y251.length co97]] (by rfl) rfl rfl (by (try simp only [List.map_toArray, List.map_cons, List.map_nil]); first | done | rfl | (simp only [List.length_drop, List.length_take]; rfl)) ?_
                         with_reducible refine (gap_Least.calls a0_0 _ _ y251 t254 t255 t256 t257 t260 _ ?side1 ?side2 A79.out).mono ?_
                         (case side1 => repeat (first | exact (Kd.R_reads' HO253.out).2.2 | (with_reducible refine Kd.C_alloc ?_ _) | (with_reducible refine Kd.C_drewN ?_ _) | (with_reducible refine Kd.C_drew ?_)))
                         (case side2 => exact (Kd.R_reads' HO253.out).2.1)
                         rintro e w98 ⟨v258, rfl, ho0, hb⟩
                         refine ⟨_, rfl, ?_⟩
                         have n0_ := Aside0.mk (Kd.R_elder' (by (with_reducible repeat (first | apply z9_ | apply z7_ | apply z8_)); exact HO_227002.out) (Kd.R_base ho0) hb)
                         have n1_ := Aside0.mk (Kd.R_elder' (by (with_reducible repeat (first | apply z9_ | apply z7_ | apply z8_)); exact HO_235002.out) (Kd.R_base ho0) hb)
                         have n2_ := Aside0.mk (z10_ (by (with_reducible repeat (first | apply z9_ | apply z7_ | apply z8_)); exact HO253.out) hb)
                         have n3_ := Aside0.mk (Kd.R_lower (Kd.R_new' (Kd.R_new' ho0 (Kd.R_lt (by (with_reducible repeat (first | apply z9_ | apply z7_ | apply z8_)); exact HO_227002.out))) (Kd.R_lt (by (with_reducible repeat (first | apply z9_ | apply z7_ | apply z8_)); exact HO_235002.out))) (below_size (by repeat (first | (with_reducible first | exact HB.out | apply z6_ | apply z4_ | apply z5_ | refine z3_ ?_ GE213.out | refine z3_ ?_ GE218.out | refine z3_ ?_ GE226.out | refine z3_ ?_ GE234.out | refine z3_ ?_ GE261.out) | exact HB.out))))
                         have n4_ := Aside0.mk (z20_ (g := gb213) (o := .cells #[.int .i64 a0_0, .slice A0_1 l0_1.length c0_1] 24 (0, 0)) (by (with_reducible repeat (first | refine z0_ ?_ _ | refine z1_ ?_ | refine z2_ ?_ _)); exact BK213.out) hb)
                         have n5_ := Aside0.mk (z20_ (g := gb218) (o := .cells #[.int .i64 x219000_21, .slice A0_1 l0_1.length c0_1] 24 (0, 0)) (by (with_reducible repeat (first | refine z0_ ?_ _ | refine z1_ ?_ | refine z2_ ?_ _)); exact BK218.out) hb)
                         have n6_ := Aside0.mk (z20_ (g := gb226) (o := .cells #[.bool t220, .int .i64 t221, .slice Ao41 t222.length co41] 30 (0, 0)) (by (with_reducible repeat (first | refine z0_ ?_ _ | refine z1_ ?_ | refine z2_ ?_ _)); exact BK226.out) hb)
                         have n7_ := Aside0.mk (z20_ (g := gb234) (o := .cells #[.bool t228, .int .i64 t229, .slice Ao49 t230.length co49] 30 (0, 0)) (by (with_reducible repeat (first | refine z0_ ?_ _ | refine z1_ ?_ | refine z2_ ?_ _)); exact BK234.out) hb)
                         have n8_ := Aside0.mk (z20_ (g := gb261) (o := .cells #[.bool false, .int .i64 0, .slice none 0 0] 30 (0, 0)) (by (with_reducible repeat (first | refine z0_ ?_ _ | refine z1_ ?_ | refine z2_ ?_ _)); exact BK261.out) hb)
                         have n9_ := Aside0.mk (z24_ (by repeat (first | (with_reducible first | exact HB.out | apply z6_ | apply z4_ | apply z5_ | refine z3_ ?_ GE213.out | refine z3_ ?_ GE218.out | refine z3_ ?_ GE226.out | refine z3_ ?_ GE234.out | refine z3_ ?_ GE261.out) | exact HB.out)) hb)
                         clear HO_227002
                         clear HO_235002
                         clear HO253
                         clear BK213
                         clear BK218
                         clear BK226
                         clear BK234
                         clear BK261
                         clear HB
                         have HO_227002 := n0_
                         have HO_235002 := n1_
                         have HO253 := n2_
                         have HO259 := n3_
                         have BK213 := n4_
                         have BK218 := n5_
                         have BK226 := n6_
                         have BK234 := n7_
                         have BK261 := n8_
                         have HB := n9_
                         clear n0_ n1_ n2_ n3_ n4_ n5_ n6_ n7_ n8_ n9_
                         (try clear hb)
                         (try clear hb2)
                         (try clear hk)
                         (try clear hi)
                         (try clear ho0)
                         refine hK.out _ _ ⟨(z23_ BK213.out 0).trans rfl, (z23_ BK213.out 1).trans rfl⟩ (fun hHeld => ?_)
                         clear hK K
                         refine norm_ (a' := ?_) ?_ ?_
                         rotate_left
                         ·show Act.put _ (some 111) _ = _
                          simp only [Act.put, z15_, z16_, z17_, i64_w, i32_w]
                          rfl
                         refine pure_ (i := 16) (N := some 95) (v := ?_) (a' := ?_) #[true, true, true, true, true, true, true, true, true, true, true, true, true, true, true, true, true, false, false, false, true, false, false, false] rfl rfl (any_of HT_.out (by kernel_rfl)) (fun _ _ _ h => h) (Or.inl ⟨by rfl, ?_⟩) ?_ ?_
                         rotate_left
                         ·intro w'
                          go_simp
                          with_reducible rfl
                         rotate_left
                         ·simp only [Act.put, z15_, z16_, z17_, i64_w, i32_w]
                          rfl
                         refine pure_ (i := 17) (N := some 112) (v := ?_) (a' := ?_) #[true, true, true, true, true, true, true, true, true, true, true, true, true, true, true, true, true, true, false, false, true, false, false, false] rfl rfl (any_of HT_.out (by kernel_rfl)) (fun _ _ _ h => h) (Or.inl ⟨by rfl, ?_⟩) ?_ ?_
                         rotate_left
                         ·intro w'
                          go_simp
                          with_reducible rfl
                         rotate_left
                         ·simp only [Act.put, z15_, z16_, z17_, i64_w, i32_w]
                          rfl
                         refine pure_ (i := 18) (N := some 113) (v := ?_) (a' := ?_) #[true, true, true, true, true, true, true, true, true, true, true, true, true, true, true, true, true, true, true, false, true, false, false, false] rfl rfl (any_of HT_.out (by kernel_rfl)) (fun _ _ _ h => h) (Or.inl ⟨by rfl, ?_⟩) ?_ ?_
                         rotate_left
                         ·intro w'
                          go_simp
                          with_reducible rfl
                         rotate_left
                         ·simp only [Act.put, z15_, z16_, z17_, i64_w, i32_w]
                          rfl
                         refine pure_ (i := 19) (N := some 114) (v := ?_) (a' := ?_) #[true, true, true, true, true, true, true, true, true, true, true, true, true, true, true, true, true, true, true, true, true, false, false, false] rfl rfl (any_of HT_.out (by kernel_rfl)) (fun _ _ _ h => h) (Or.inl ⟨by rfl, ?_⟩) ?_ ?_
                         rotate_left
                         ·intro w'
                          go_simp
                          with_reducible rfl
                         rotate_left
                         ·simp only [Act.put, z15_, z16_, z17_, i64_w, i32_w]
                          rfl
                         exact norm_ (by first | (simp only [putAll, Act.put, z15_, z16_, z17_]; done) | (simp only [putAll, Act.put, z15_, z16_, z17_]; rfl)) (hJ2_7_13_15_20 (v238, v245, .slice Ao97 y251.length co97, v258, gb261) _ ⟨hHeld, (by (with_reducible repeat (first | apply z9_ | apply z7_ | apply z8_)); exact HO253.out), (by (with_reducible repeat (first | apply z9_ | apply z7_ | apply z8_)); exact Kd.R_mono HO259.out (fun _ hk => ⟨hk.1.2, hk.2⟩)), (by (with_reducible repeat (first | apply z9_ | apply z7_ | apply z8_)); exact Kd.R_mono HO_227002.out (fun _ hk => ⟨hk.2, hk.1⟩)), (by (with_reducible repeat (first | apply z9_ | apply z7_ | apply z8_)); exact Kd.R_mono HO_235002.out (fun _ hk => ⟨hk.2, hk.1⟩)), (by (with_reducible repeat (first | refine z0_ ?_ _ | refine z1_ ?_ | refine z2_ ?_ _)); exact BK213.out), (by (with_reducible repeat (first | refine z0_ ?_ _ | refine z1_ ?_ | refine z2_ ?_ _)); exact BK218.out), (by (with_reducible repeat (first | refine z0_ ?_ _ | refine z1_ ?_ | refine z2_ ?_ _)); exact BK226.out), (by (with_reducible repeat (first | refine z0_ ?_ _ | refine z1_ ?_ | refine z2_ ?_ _)); exact BK234.out), (by (with_reducible repeat (first | refine z0_ ?_ _ | refine z1_ ?_ | refine z2_ ?_ _)); exact BK261.out), GW261.out, GE261.out, NB213_261.out, NB261_213.out, NB218_261.out, NB261_218.out, NB226_261.out, NB261_226.out, NB234_261.out, NB261_234.out, (by repeat (first | (with_reducible first | exact HB.out | apply z6_ | apply z4_ | apply z5_ | refine z3_ ?_ GE213.out | refine z3_ ?_ GE218.out | refine z3_ ?_ GE226.out | refine z3_ ?_ GE234.out | refine z3_ ?_ GE261.out) | exact HB.out))⟩)
                       ·skip
                        rintro ⟨v238, v245, v252, v258⟩ w96 ⟨hS_, h0_, h1_, h2_, h3_, h4_, h5_, h6_, h7_, h8_⟩
                        have n0_ : Aside0 (Kd.R k39 39 w96 w.heap.size (fun _ => True) v252 y251) := ⟨h0_⟩
                        have n1_ : Aside0 (Kd.R (Kd.int .i64) 3 w96 w.heap.size (fun k_ => some k_ ≠ (.slice Ao41 t222.length co41 : Value).ownBlock ∧ some k_ ≠ (.slice Ao49 t230.length co49 : Value).ownBlock) v258 t257) := ⟨h1_⟩
                        have n2_ : Aside0 (Kd.R (Kd.int .i64) 3 w96 w.heap.size (fun k_ => some k_ ≠ (v258 : Value).ownBlock ∧ some k_ ≠ (.slice Ao49 t230.length co49 : Value).ownBlock) (.slice Ao41 t222.length co41) t222) := ⟨h2_⟩
                        have n3_ : Aside0 (Kd.R (Kd.int .i64) 3 w96 w.heap.size (fun k_ => some k_ ≠ (v258 : Value).ownBlock ∧ some k_ ≠ (.slice Ao41 t222.length co41 : Value).ownBlock) (.slice Ao49 t230.length co49) t230) := ⟨h3_⟩
                        have n4_ : Aside0 (w96.heap[gb213]? = some (.cells #[.int .i64 a0_0, .slice A0_1 l0_1.length c0_1] 24 (0, 0))) := ⟨h4_⟩
                        have n5_ : Aside0 (w96.heap[gb218]? = some (.cells #[.int .i64 x219000_21, .slice A0_1 l0_1.length c0_1] 24 (0, 0))) := ⟨h5_⟩
                        have n6_ : Aside0 (w96.heap[gb226]? = some (.cells #[.bool t220, .int .i64 t221, .slice Ao41 t222.length co41] 30 (0, 0))) := ⟨h6_⟩
                        have n7_ : Aside0 (w96.heap[gb234]? = some (.cells #[.bool t228, .int .i64 t229, .slice Ao49 t230.length co49] 30 (0, 0))) := ⟨h7_⟩
                        have n8_ : Aside0 (Below w.heap.size w w96) := ⟨h8_⟩
                        clear HO_227002
                        clear HO_235002
                        clear BK213
                        clear BK218
                        clear BK226
                        clear BK234
                        clear HB
                        clear h0_ h1_ h2_ h3_ h4_ h5_ h6_ h7_ h8_
                        have HO253 := n0_
                        have HO259 := n1_
                        have HO_227002 := n2_
                        have HO_235002 := n3_
                        have BK213 := n4_
                        have BK218 := n5_
                        have BK226 := n6_
                        have BK234 := n7_
                        have HB := n8_
                        clear n0_ n1_ n2_ n3_ n4_ n5_ n6_ n7_ n8_
                        have hHeld : w96.cell? ⟨gb213, 0, none⟩ = some (.int .i64 a0_0) ∧ w96.cell? ⟨gb213, 1, none⟩ = some (.slice A0_1 l0_1.length c0_1) := hS_
                        obtain ⟨Ao97, co97, eo97⟩ := Kd.R_slice HO253.out
                        (first | subst eo97 | (injection eo97 with f1_ f2_ f3_; have f4_ := f1_.symm; have f5_ := f3_.symm; clear f1_ f2_ f3_; subst f4_; subst f5_))
                        refine norm_ (a' := ?_) ?_ ?_
                        rotate_left
                        ·simp only [putAll, Act.put, z15_, z16_, z17_]
                         rfl
                        refine one_ (i := 20) (N := some 15) #[true, true, true, true, true, true, true, true, true, true, true, true, true, true, true, true, true, true, true, true, true, false, false, false] rfl rfl (one_of HT_.out (by kernel_rfl)) (by decide) (fun K hK => ?_)
                        refine box_step ?hg (N := 15) ?hd (cs := #[.bool false, .int .i64 0, .slice none 0 0]) (t := 30) ?hr ?_; (case hd => rfl); (case hg => rfl); (case hr => first | (go_simp; done) | (go_simp; rfl))
                        intro gb261 hg w98 hbox hb
                        have n0_ := Aside0.mk (z10_ (by (with_reducible repeat (first | apply z9_ | apply z7_ | apply z8_)); exact HO_227002.out) hb)
                        have n1_ := Aside0.mk (z10_ (by (with_reducible repeat (first | apply z9_ | apply z7_ | apply z8_)); exact HO_235002.out) hb)
                        have n2_ := Aside0.mk (z10_ (by (with_reducible repeat (first | apply z9_ | apply z7_ | apply z8_)); exact HO253.out) hb)
                        have n3_ := Aside0.mk (z10_ (by (with_reducible repeat (first | apply z9_ | apply z7_ | apply z8_)); exact HO259.out) hb)
                        have n4_ := Aside0.mk (z20_ (g := gb213) (o := .cells #[.int .i64 a0_0, .slice A0_1 l0_1.length c0_1] 24 (0, 0)) (by (with_reducible repeat (first | refine z0_ ?_ _ | refine z1_ ?_ | refine z2_ ?_ _)); exact BK213.out) hb)
                        have n5_ := Aside0.mk (z20_ (g := gb218) (o := .cells #[.int .i64 x219000_21, .slice A0_1 l0_1.length c0_1] 24 (0, 0)) (by (with_reducible repeat (first | refine z0_ ?_ _ | refine z1_ ?_ | refine z2_ ?_ _)); exact BK218.out) hb)
                        have n6_ := Aside0.mk (z20_ (g := gb226) (o := .cells #[.bool t220, .int .i64 t221, .slice Ao41 t222.length co41] 30 (0, 0)) (by (with_reducible repeat (first | refine z0_ ?_ _ | refine z1_ ?_ | refine z2_ ?_ _)); exact BK226.out) hb)
                        have n7_ := Aside0.mk (z20_ (g := gb234) (o := .cells #[.bool t228, .int .i64 t229, .slice Ao49 t230.length co49] 30 (0, 0)) (by (with_reducible repeat (first | refine z0_ ?_ _ | refine z1_ ?_ | refine z2_ ?_ _)); exact BK234.out) hb)
                        have n8_ := Aside0.mk (z24_ (by repeat (first | (with_reducible first | exact HB.out | apply z6_ | apply z4_ | apply z5_ | refine z3_ ?_ GE213.out | refine z3_ ?_ GE218.out | refine z3_ ?_ GE226.out | refine z3_ ?_ GE234.out) | exact HB.out)) hb)
                        have n9_ := Aside0.mk (hbox)
                        have n10_ := Aside0.mk ((by rw [hg]; exact (below_size (by repeat (first | (with_reducible first | exact HB.out | apply z6_ | apply z4_ | apply z5_ | refine z3_ ?_ GE213.out | refine z3_ ?_ GE218.out | refine z3_ ?_ GE226.out | refine z3_ ?_ GE234.out) | exact HB.out))) : w.heap.size ≤ gb261))
                        have n11_ := Aside0.mk ((by rw [hg]; exact (below_size (by repeat (first | (with_reducible first | exact HB.out | apply z6_ | apply z4_ | apply z5_ | refine z3_ ?_ GE213.out | refine z3_ ?_ GE218.out | refine z3_ ?_ GE226.out | refine z3_ ?_ GE234.out) | exact HB.out))) : w.heap.size ≤ gb261))
                        have n12_ := Aside0.mk ((by rw [hg]; exact Nat.ne_of_lt (blk_lt (g := gb213) (o := .cells #[.int .i64 a0_0, .slice A0_1 l0_1.length c0_1] 24 (0, 0)) (by (with_reducible repeat (first | refine z0_ ?_ _ | refine z1_ ?_ | refine z2_ ?_ _)); exact BK213.out)) : gb213 ≠ gb261))
                        have n13_ := Aside0.mk ((by rw [hg]; exact Nat.ne_of_gt (blk_lt (g := gb213) (o := .cells #[.int .i64 a0_0, .slice A0_1 l0_1.length c0_1] 24 (0, 0)) (by (with_reducible repeat (first | refine z0_ ?_ _ | refine z1_ ?_ | refine z2_ ?_ _)); exact BK213.out)) : gb261 ≠ gb213))
                        have n14_ := Aside0.mk ((by rw [hg]; exact Nat.ne_of_lt (blk_lt (g := gb218) (o := .cells #[.int .i64 x219000_21, .slice A0_1 l0_1.length c0_1] 24 (0, 0)) (by (with_reducible repeat (first | refine z0_ ?_ _ | refine z1_ ?_ | refine z2_ ?_ _)); exact BK218.out)) : gb218 ≠ gb261))
                        have n15_ := Aside0.mk ((by rw [hg]; exact Nat.ne_of_gt (blk_lt (g := gb218) (o := .cells #[.int .i64 x219000_21, .slice A0_1 l0_1.length c0_1] 24 (0, 0)) (by (with_reducible repeat (first | refine z0_ ?_ _ | refine z1_ ?_ | refine z2_ ?_ _)); exact BK218.out)) : gb261 ≠ gb218))
                        have n16_ := Aside0.mk ((by rw [hg]; exact Nat.ne_of_lt (blk_lt (g := gb226) (o := .cells #[.bool t220, .int .i64 t221, .slice Ao41 t222.length co41] 30 (0, 0)) (by (with_reducible repeat (first | refine z0_ ?_ _ | refine z1_ ?_ | refine z2_ ?_ _)); exact BK226.out)) : gb226 ≠ gb261))
                        have n17_ := Aside0.mk ((by rw [hg]; exact Nat.ne_of_gt (blk_lt (g := gb226) (o := .cells #[.bool t220, .int .i64 t221, .slice Ao41 t222.length co41] 30 (0, 0)) (by (with_reducible repeat (first | refine z0_ ?_ _ | refine z1_ ?_ | refine z2_ ?_ _)); exact BK226.out)) : gb261 ≠ gb226))
                        have n18_ := Aside0.mk ((by rw [hg]; exact Nat.ne_of_lt (blk_lt (g := gb234) (o := .cells #[.bool t228, .int .i64 t229, .slice Ao49 t230.length co49] 30 (0, 0)) (by (with_reducible repeat (first | refine z0_ ?_ _ | refine z1_ ?_ | refine z2_ ?_ _)); exact BK234.out)) : gb234 ≠ gb261))
                        have n19_ := Aside0.mk ((by rw [hg]; exact Nat.ne_of_gt (blk_lt (g := gb234) (o := .cells #[.bool t228, .int .i64 t229, .slice Ao49 t230.length co49] 30 (0, 0)) (by (with_reducible repeat (first | refine z0_ ?_ _ | refine z1_ ?_ | refine z2_ ?_ _)); exact BK234.out)) : gb261 ≠ gb234))
                        clear HO_227002
                        clear HO_235002
                        clear HO253
                        clear HO259
                        clear BK213
                        clear BK218
                        clear BK226
                        clear BK234
                        clear HB
                        have HO_227002 := n0_
                        have HO_235002 := n1_
                        have HO253 := n2_
                        have HO259 := n3_
                        have BK213 := n4_
                        have BK218 := n5_
                        have BK226 := n6_
                        have BK234 := n7_
                        have HB := n8_
                        have BK261 := n9_
                        have GW261 := n10_
                        have GE261 := n11_
                        have NB213_261 := n12_
                        have NB261_213 := n13_
                        have NB218_261 := n14_
                        have NB261_218 := n15_
                        have NB226_261 := n16_
                        have NB261_226 := n17_
                        have NB234_261 := n18_
                        have NB261_234 := n19_
                        clear n0_ n1_ n2_ n3_ n4_ n5_ n6_ n7_ n8_ n9_ n10_ n11_ n12_ n13_ n14_ n15_ n16_ n17_ n18_ n19_
                        clear hb hbox hg
                        refine hK.out _ _ ⟨(z23_ BK213.out 0).trans rfl, (z23_ BK213.out 1).trans rfl⟩ (fun hHeld => ?_)
                        clear hK K
                        refine norm_ (a' := ?_) ?_ ?_
                        rotate_left
                        ·show Act.put _ (some 15) _ = _
                         simp only [Act.put, z15_, z16_, z17_, i64_w, i32_w]
                         rfl
                        exact norm_ (by first | (simp only [putAll, Act.put, z15_, z16_, z17_]; done) | (simp only [putAll, Act.put, z15_, z16_, z17_]; rfl)) (hJ2_7_13_15_20 (v238, v245, .slice Ao97 y251.length co97, v258, gb261) _ ⟨hHeld, (by (with_reducible repeat (first | apply z9_ | apply z7_ | apply z8_)); exact HO253.out), (by (with_reducible repeat (first | apply z9_ | apply z7_ | apply z8_)); exact HO259.out), (by (with_reducible repeat (first | apply z9_ | apply z7_ | apply z8_)); exact HO_227002.out), (by (with_reducible repeat (first | apply z9_ | apply z7_ | apply z8_)); exact HO_235002.out), (by (with_reducible repeat (first | refine z0_ ?_ _ | refine z1_ ?_ | refine z2_ ?_ _)); exact BK213.out), (by (with_reducible repeat (first | refine z0_ ?_ _ | refine z1_ ?_ | refine z2_ ?_ _)); exact BK218.out), (by (with_reducible repeat (first | refine z0_ ?_ _ | refine z1_ ?_ | refine z2_ ?_ _)); exact BK226.out), (by (with_reducible repeat (first | refine z0_ ?_ _ | refine z1_ ?_ | refine z2_ ?_ _)); exact BK234.out), (by (with_reducible repeat (first | refine z0_ ?_ _ | refine z1_ ?_ | refine z2_ ?_ _)); exact BK261.out), GW261.out, GE261.out, NB213_261.out, NB261_213.out, NB218_261.out, NB261_218.out, NB226_261.out, NB261_226.out, NB234_261.out, NB261_234.out, (by repeat (first | (with_reducible first | exact HB.out | apply z6_ | apply z4_ | apply z5_ | refine z3_ ?_ GE213.out | refine z3_ ?_ GE218.out | refine z3_ ?_ GE226.out | refine z3_ ?_ GE234.out | refine z3_ ?_ GE261.out) | exact HB.out))⟩)
                      rintro ⟨v238, v245, v252, v258, gb261⟩ w97 ⟨hS_, h0_, h1_, h2_, h3_, h4_, h5_, h6_, h7_, h8_, h9_, h10_, h11_, h12_, h13_, h14_, h15_, h16_, h17_, h18_, h19_⟩
                      have n0_ : Aside0 (Kd.R k39 39 w97 w.heap.size (fun _ => True) v252 y251) := ⟨h0_⟩
                      have n1_ : Aside0 (Kd.R (Kd.int .i64) 3 w97 w.heap.size (fun k_ => some k_ ≠ (.slice Ao41 t222.length co41 : Value).ownBlock ∧ some k_ ≠ (.slice Ao49 t230.length co49 : Value).ownBlock) v258 t257) := ⟨h1_⟩
                      have n2_ : Aside0 (Kd.R (Kd.int .i64) 3 w97 w.heap.size (fun k_ => some k_ ≠ (v258 : Value).ownBlock ∧ some k_ ≠ (.slice Ao49 t230.length co49 : Value).ownBlock) (.slice Ao41 t222.length co41) t222) := ⟨h2_⟩
                      have n3_ : Aside0 (Kd.R (Kd.int .i64) 3 w97 w.heap.size (fun k_ => some k_ ≠ (v258 : Value).ownBlock ∧ some k_ ≠ (.slice Ao41 t222.length co41 : Value).ownBlock) (.slice Ao49 t230.length co49) t230) := ⟨h3_⟩
                      have n4_ : Aside0 (w97.heap[gb213]? = some (.cells #[.int .i64 a0_0, .slice A0_1 l0_1.length c0_1] 24 (0, 0))) := ⟨h4_⟩
                      have n5_ : Aside0 (w97.heap[gb218]? = some (.cells #[.int .i64 x219000_21, .slice A0_1 l0_1.length c0_1] 24 (0, 0))) := ⟨h5_⟩
                      have n6_ : Aside0 (w97.heap[gb226]? = some (.cells #[.bool t220, .int .i64 t221, .slice Ao41 t222.length co41] 30 (0, 0))) := ⟨h6_⟩
                      have n7_ : Aside0 (w97.heap[gb234]? = some (.cells #[.bool t228, .int .i64 t229, .slice Ao49 t230.length co49] 30 (0, 0))) := ⟨h7_⟩
                      have n8_ : Aside0 (w97.heap[gb261]? = some (.cells #[.bool false, .int .i64 0, .slice none 0 0] 30 (0, 0))) := ⟨h8_⟩
                      have n9_ : Aside0 (w.heap.size ≤ gb261) := ⟨h9_⟩
                      have n10_ : Aside0 (w.heap.size ≤ gb261) := ⟨h10_⟩
                      have n11_ : Aside0 (gb213 ≠ gb261) := ⟨h11_⟩
                      have n12_ : Aside0 (gb261 ≠ gb213) := ⟨h12_⟩
                      have n13_ : Aside0 (gb218 ≠ gb261) := ⟨h13_⟩
                      have n14_ : Aside0 (gb261 ≠ gb218) := ⟨h14_⟩
                      have n15_ : Aside0 (gb226 ≠ gb261) := ⟨h15_⟩
                      have n16_ : Aside0 (gb261 ≠ gb226) := ⟨h16_⟩
                      have n17_ : Aside0 (gb234 ≠ gb261) := ⟨h17_⟩
                      have n18_ : Aside0 (gb261 ≠ gb234) := ⟨h18_⟩
                      have n19_ : Aside0 (Below w.heap.size w w97) := ⟨h19_⟩
                      clear HO_227002
                      clear HO_235002
                      clear BK213
                      clear BK218
                      clear BK226
                      clear BK234
                      clear HB
                      clear h0_ h1_ h2_ h3_ h4_ h5_ h6_ h7_ h8_ h9_ h10_ h11_ h12_ h13_ h14_ h15_ h16_ h17_ h18_ h19_
                      have HO253 := n0_
                      have HO259 := n1_
                      have HO_227002 := n2_
                      have HO_235002 := n3_
                      have BK213 := n4_
                      have BK218 := n5_
                      have BK226 := n6_
                      have BK234 := n7_
                      have BK261 := n8_
                      have GW261 := n9_
                      have GE261 := n10_
                      have NB213_261 := n11_
                      have NB261_213 := n12_
                      have NB218_261 := n13_
                      have NB261_218 := n14_
                      have NB226_261 := n15_
                      have NB261_226 := n16_
                      have NB234_261 := n17_
                      have NB261_234 := n18_
                      have HB := n19_
                      clear n0_ n1_ n2_ n3_ n4_ n5_ n6_ n7_ n8_ n9_ n10_ n11_ n12_ n13_ n14_ n15_ n16_ n17_ n18_ n19_
                      have hHeld : w97.cell? ⟨gb213, 0, none⟩ = some (.int .i64 a0_0) ∧ w97.cell? ⟨gb213, 1, none⟩ = some (.slice A0_1 l0_1.length c0_1) := hS_
                      obtain ⟨Ao98, co98, eo98⟩ := Kd.R_slice HO253.out
                      (first | subst eo98 | (injection eo98 with f1_ f2_ f3_; have f4_ := f1_.symm; have f5_ := f3_.symm; clear f1_ f2_ f3_; subst f4_; subst f5_))
                      obtain ⟨Ao101, co101, eo101⟩ := Kd.R_slice HO259.out
                      (first | subst eo101 | (injection eo101 with f1_ f2_ f3_; have f4_ := f1_.symm; have f5_ := f3_.symm; clear f1_ f2_ f3_; subst f4_; subst f5_))
                      refine norm_ (a' := ?_) ?_ ?_
                      rotate_left
                      ·simp only [putAll, Act.put, z15_, z16_, z17_]
                       rfl
                      refine pure_ (i := 21) (N := some 14) (v := ?_) (a' := ?_) #[true, true, true, true, true, true, true, true, true, true, true, true, true, true, true, true, true, true, true, true, true, true, false, false] rfl rfl (any_of HT_.out (by kernel_rfl)) (fun _ _ _ h => h) (Or.inl ⟨by rfl, ?_⟩) ?_ ?_
                      rotate_left
                      ·intro w'
                       go_simp
                       with_reducible rfl
                      rotate_left
                      ·simp only [Act.put, z15_, z16_, z17_, i64_w, i32_w]
                       rfl
                      refine one_ (i := 22) (N := none) #[true, true, true, true, true, true, true, true, true, true, true, true, true, true, true, true, true, true, true, true, true, true, true, false] rfl rfl (one_of HT_.out (by kernel_rfl)) (by decide) (fun K hK => ?_)
                      have hs99 : w97.cell? ⟨gb261, 0, none⟩ = some (.bool false) := (z23_ BK261.out 0).trans rfl
                      have hfs99 := blk_frozen BK261.out 0
                      have hns99_0 := NB213_261.out
                      have hns99_1 := NB218_261.out
                      have hns99_2 := NB226_261.out
                      have hns99_3 := NB234_261.out
                      have hms99_0 := NB261_213.out
                      have hms99_1 := NB261_218.out
                      have hms99_2 := NB261_226.out
                      have hms99_3 := NB261_234.out
                      have hs100 : w97.cell? ⟨gb261, 1, none⟩ = some (.int .i64 0) := (z23_ BK261.out 1).trans rfl
                      have hfs100 := blk_frozen BK261.out 1
                      have hns100_0 := NB213_261.out
                      have hns100_1 := NB218_261.out
                      have hns100_2 := NB226_261.out
                      have hns100_3 := NB234_261.out
                      have hms100_0 := NB261_213.out
                      have hms100_1 := NB261_218.out
                      have hms100_2 := NB261_226.out
                      have hms100_3 := NB261_234.out
                      have hs102 : w97.cell? ⟨gb261, 2, none⟩ = some (.slice none 0 0) := (z23_ BK261.out 2).trans rfl
                      have hfs102 := blk_frozen BK261.out 2
                      have hns102_0 := NB213_261.out
                      have hns102_1 := NB218_261.out
                      have hns102_2 := NB226_261.out
                      have hns102_3 := NB234_261.out
                      have hms102_0 := NB261_213.out
                      have hms102_1 := NB261_218.out
                      have hms102_2 := NB261_226.out
                      have hms102_3 := NB261_234.out
                      refine skip_ (w1 := ?_) (by rfl) rfl ?_ ?_
                      rotate_left
                      ·go_simp
                       rfl
                      refine hK.out _ _ ⟨((cell_far (p := ⟨gb261, _, none⟩) NB213_261.out _).trans (((cell_far (p := ⟨gb261, _, none⟩) NB213_261.out _).trans (((cell_far (p := ⟨gb261, _, none⟩) NB213_261.out _).trans (hHeld.1)))))), ((cell_far (p := ⟨gb261, _, none⟩) NB213_261.out _).trans (((cell_far (p := ⟨gb261, _, none⟩) NB213_261.out _).trans (((cell_far (p := ⟨gb261, _, none⟩) NB213_261.out _).trans (hHeld.2))))))⟩ (fun hHeld => ?_)
                      clear hK K
                      refine pure_ (i := 23) (N := some 16) (v := ?_) (a' := ?_) #[true, true, true, true, true, true, true, true, true, true, true, true, true, true, true, true, true, true, true, true, true, true, true, true] rfl rfl (any_of HT_.out (by kernel_rfl)) (fun _ _ _ h => h) (Or.inl ⟨by rfl, ?_⟩) ?_ ?_
                      rotate_left
                      ·intro w'
                       go_simp
                       with_reducible rfl
                      rotate_left
                      ·simp only [Act.put, z15_, z16_, z17_, i64_w, i32_w]
                       rfl
                      refine done_ (done_of HT_.out (by kernel_rfl)) ?_
                      have hnb103 := NB213_261.out
                      have hnc103 := NB261_213.out
                      have hcz104_0 : w97.cell? ⟨gb213, 0, none⟩ = some (.int .i64 a0_0) := (z23_ BK213.out 0).trans rfl
                      have hcz104_1 : w97.cell? ⟨gb213, 1, none⟩ = some (.slice A0_1 l0_1.length c0_1) := (z23_ BK213.out 1).trans rfl
                      have hfz104_0 := blk_frozen BK213.out 0
                      have hfz104_1 := blk_frozen BK213.out 1
                      try go_wp2_with (first | (go_at_call 14; (with_reducible refine (gap_Asked.calls a0_0 _ _ l0_1 t262 _ ?side1 ?side2 A82.out).mono ?_); (case side1 => exact Kd.C_below HR0_1.out (by repeat (first | (with_reducible first | exact HB.out | apply z6_ | apply z4_ | apply z5_ | refine z3_ ?_ GE213.out | refine z3_ ?_ GE218.out | refine z3_ ?_ GE226.out | refine z3_ ?_ GE234.out | refine z3_ ?_ GE261.out) | exact HB.out))); (case side2 => exact HC0_1.out); rintro e w105 ⟨rfl, hb⟩; have n0_ := Aside0.mk (z10_ (by (with_reducible repeat (first | apply z9_ | apply z7_ | apply z8_)); exact (Kd.R_mono (z12_ (p := ⟨gb261, 2, none⟩) (z12_ (p := ⟨gb261, 1, none⟩) (z12_ (p := ⟨gb261, 0, none⟩) (Kd.R_types HO_227002.out BK261.out (by decide)) (fun _ hk => hk.2) (.bool t255)) (fun _ hk => hk.2) (.int .i64 t256)) (fun _ hk => hk.2) (.slice Ao101 t257.length co101)) (fun _ h_ => h_.1))) hb); have n1_ := Aside0.mk (z10_ (by (with_reducible repeat (first | apply z9_ | apply z7_ | apply z8_)); exact (Kd.R_mono (z12_ (p := ⟨gb261, 2, none⟩) (z12_ (p := ⟨gb261, 1, none⟩) (z12_ (p := ⟨gb261, 0, none⟩) (Kd.R_types HO_235002.out BK261.out (by decide)) (fun _ hk => hk.2) (.bool t255)) (fun _ hk => hk.2) (.int .i64 t256)) (fun _ hk => hk.2) (.slice Ao101 t257.length co101)) (fun _ h_ => h_.1))) hb); have n2_ := Aside0.mk (z10_ (by (with_reducible repeat (first | apply z9_ | apply z7_ | apply z8_)); exact (Kd.R_mono (z12_ (p := ⟨gb261, 2, none⟩) (z12_ (p := ⟨gb261, 1, none⟩) (z12_ (p := ⟨gb261, 0, none⟩) (Kd.R_types HO253.out BK261.out (by decide)) (fun _ hk => hk.2) (.bool t255)) (fun _ hk => hk.2) (.int .i64 t256)) (fun _ hk => hk.2) (.slice Ao101 t257.length co101)) (fun _ h_ => h_.1))) hb); have n3_ := Aside0.mk (z10_ (by (with_reducible repeat (first | apply z9_ | apply z7_ | apply z8_)); exact (Kd.R_mono (z12_ (p := ⟨gb261, 2, none⟩) (z12_ (p := ⟨gb261, 1, none⟩) (z12_ (p := ⟨gb261, 0, none⟩) (Kd.R_types HO259.out BK261.out (by decide)) (fun _ hk => hk.2) (.bool t255)) (fun _ hk => hk.2) (.int .i64 t256)) (fun _ hk => hk.2) (.slice Ao101 t257.length co101)) (fun _ h_ => h_.1))) hb); have n4_ := Aside0.mk (z20_ (g := gb213) (o := .cells #[.int .i64 a0_0, .slice A0_1 l0_1.length c0_1] 24 (0, 0)) (by (with_reducible repeat (first | refine z0_ ?_ _ | refine z1_ ?_ | refine z2_ ?_ _)); refine blk_far ?_ NB213_261.out _; (with_reducible repeat (first | refine z0_ ?_ _ | refine z1_ ?_ | refine z2_ ?_ _)); refine blk_far ?_ NB213_261.out _; (with_reducible repeat (first | refine z0_ ?_ _ | refine z1_ ?_ | refine z2_ ?_ _)); refine blk_far ?_ NB213_261.out _; (with_reducible repeat (first | refine z0_ ?_ _ | refine z1_ ?_ | refine z2_ ?_ _)); exact BK213.out) hb); have n5_ := Aside0.mk (z20_ (g := gb218) (o := .cells #[.int .i64 x219000_21, .slice A0_1 l0_1.length c0_1] 24 (0, 0)) (by (with_reducible repeat (first | refine z0_ ?_ _ | refine z1_ ?_ | refine z2_ ?_ _)); refine blk_far ?_ NB218_261.out _; (with_reducible repeat (first | refine z0_ ?_ _ | refine z1_ ?_ | refine z2_ ?_ _)); refine blk_far ?_ NB218_261.out _; (with_reducible repeat (first | refine z0_ ?_ _ | refine z1_ ?_ | refine z2_ ?_ _)); refine blk_far ?_ NB218_261.out _; (with_reducible repeat (first | refine z0_ ?_ _ | refine z1_ ?_ | refine z2_ ?_ _)); exact BK218.out) hb); have n6_ := Aside0.mk (z20_ (g := gb226) (o := .cells #[.bool t220, .int .i64 t221, .slice Ao41 t222.length co41] 30 (0, 0)) (by (with_reducible repeat (first | refine z0_ ?_ _ | refine z1_ ?_ | refine z2_ ?_ _)); refine blk_far ?_ NB226_261.out _; (with_reducible repeat (first | refine z0_ ?_ _ | refine z1_ ?_ | refine z2_ ?_ _)); refine blk_far ?_ NB226_261.out _; (with_reducible repeat (first | refine z0_ ?_ _ | refine z1_ ?_ | refine z2_ ?_ _)); refine blk_far ?_ NB226_261.out _; (with_reducible repeat (first | refine z0_ ?_ _ | refine z1_ ?_ | refine z2_ ?_ _)); exact BK226.out) hb); have n7_ := Aside0.mk (z20_ (g := gb234) (o := .cells #[.bool t228, .int .i64 t229, .slice Ao49 t230.length co49] 30 (0, 0)) (by (with_reducible repeat (first | refine z0_ ?_ _ | refine z1_ ?_ | refine z2_ ?_ _)); refine blk_far ?_ NB234_261.out _; (with_reducible repeat (first | refine z0_ ?_ _ | refine z1_ ?_ | refine z2_ ?_ _)); refine blk_far ?_ NB234_261.out _; (with_reducible repeat (first | refine z0_ ?_ _ | refine z1_ ?_ | refine z2_ ?_ _)); refine blk_far ?_ NB234_261.out _; (with_reducible repeat (first | refine z0_ ?_ _ | refine z1_ ?_ | refine z2_ ?_ _)); exact BK234.out) hb); have n8_ := Aside0.mk (z20_ (g := gb261) (o := .cells #[.bool t255, .int .i64 t256, .slice Ao101 t257.length co101] 30 (0, 0)) (by (with_reducible repeat (first | refine z0_ ?_ _ | refine z1_ ?_ | refine z2_ ?_ _)); refine blk_put (cs := #[.bool t255, .int .i64 t256, .slice none 0 0]) ?_ 2 _ rfl; (with_reducible repeat (first | refine z0_ ?_ _ | refine z1_ ?_ | refine z2_ ?_ _)); refine blk_put (cs := #[.bool t255, .int .i64 0, .slice none 0 0]) ?_ 1 _ rfl; (with_reducible repeat (first | refine z0_ ?_ _ | refine z1_ ?_ | refine z2_ ?_ _)); refine blk_put (cs := #[.bool false, .int .i64 0, .slice none 0 0]) ?_ 0 _ rfl; (with_reducible repeat (first | refine z0_ ?_ _ | refine z1_ ?_ | refine z2_ ?_ _)); exact BK261.out) hb); have n9_ := Aside0.mk (z24_ (by repeat (first | (with_reducible first | exact HB.out | apply z6_ | apply z4_ | apply z5_ | refine z3_ ?_ GE213.out | refine z3_ ?_ GE218.out | refine z3_ ?_ GE226.out | refine z3_ ?_ GE234.out | refine z3_ ?_ GE261.out) | exact HB.out)) hb); clear HO_227002; clear HO_235002; clear HO253; clear HO259; clear BK213; clear BK218; clear BK226; clear BK234; clear BK261; clear HB; have HO_227002 := n0_; have HO_235002 := n1_; have HO253 := n2_; have HO259 := n3_; have BK213 := n4_; have BK218 := n5_; have BK226 := n6_; have BK234 := n7_; have BK261 := n8_; have HB := n9_; clear n0_ n1_ n2_ n3_ n4_ n5_ n6_ n7_ n8_ n9_; (try clear hb); (try clear hb2); (try clear hk); (try clear hi)))
                      go_ret
                      exact ⟨by first | rfl | (simp [errW_none, errW_some] <;> rfl) | (simp only [← hji75]; first | rfl | (simp [errW_none, errW_some] <;> rfl)) | (simp [*, errW_none, errW_some] <;> rfl), by repeat (first | (with_reducible first | exact HB.out | apply z6_ | apply z4_ | apply z5_ | refine z3_ ?_ GE213.out | refine z3_ ?_ GE218.out | refine z3_ ?_ GE226.out | refine z3_ ?_ GE234.out | refine z3_ ?_ GE261.out) | exact HB.out)⟩
                     ·rw [if_neg c81] at H
                      have c81b0 : decide (t254 ≤ t219) = false := decide_eq_false c81
                      clear c81
                      exact absurd ((Option.some.inj H).trans hr) (by decide)
                    ·rw [if_neg c80] at H
                     have c80b0 : (t260 == 0) = false := beq_eq_false_iff_ne.mpr c80
                     have c80b1 : (t260 != 0) = true := bne_iff_ne.mpr c80
                     exact absurd ((Option.some.inj H).trans hr) (by decide)
                   ·rw [if_neg c78] at H
                    exact absurd H (by simp)
                  ·rw [if_neg c77] at H
                   exact absurd H (by simp)
                 ·rw [if_neg c76] at H
                  exact absurd H (by simp)
                ·rw [if_neg c74] at H
                 exact absurd H (by simp)
               ·rw [if_neg c73] at H
                exact absurd H (by simp)
              ·rw [if_neg c72] at H
               exact absurd H (by simp)
      ·rw [if_neg c32] at H
       have c32b0 : (t225 == 0) = false := beq_eq_false_iff_ne.mpr c32
       have c32b1 : (t225 != 0) = true := bne_iff_ne.mpr c32
       by_cases c146 : t233 = 4
       ·rw [if_pos c146] at H
        have c146b0 : (t233 == 4) = true := beq_iff_eq.mpr c146
        have c146b1 : (t233 != 4) = false := bne_eq_false_iff_eq.mpr c146
        clear c146
        obtain rfl := Option.some.inj H
        have hnb147 := NB213_218.out
        have hnc147 := NB218_213.out
        have hcz148_0 : wc.cell? ⟨gb213, 0, none⟩ = some (.int .i64 a0_0) := (z23_ BK213.out 0).trans rfl
        have hcz148_1 : wc.cell? ⟨gb213, 1, none⟩ = some (.slice A0_1 l0_1.length c0_1) := (z23_ BK213.out 1).trans rfl
        have hfz148_0 := blk_frozen BK213.out 0
        have hfz148_1 := blk_frozen BK213.out 1
        go_wp2_with (first | ((with_reducible refine gate_callee (f := 11) rfl ?_); refine goesL_ (some 45) rfl rfl Tryd.func11 (by kernel_rfl) rfl #[.agg #[.int .i64 a0_0, .slice A0_1 l0_1.length c0_1]] rfl (by (try simp only [List.map_toArray, List.map_cons, List.map_nil]); first | done | rfl | (simp only [List.length_drop, List.length_take]; rfl)) ?_; (with_reducible refine (gap_Least.calls a0_0 _ _ l0_1 t219 t220 t221 t222 t225 _ ?side1 ?side2 A30.out).mono ?_); (case side1 => repeat (first | exact (Kd.C_below HR0_1.out HB.out) | (with_reducible refine Kd.C_alloc ?_ _) | (with_reducible refine Kd.C_drewN ?_ _) | (with_reducible refine Kd.C_drew ?_))); (case side2 => exact HC0_1.out); rintro e w149 ⟨v223, rfl, ho0, hb⟩; refine ⟨_, rfl, ?_⟩; have n0_ := Aside0.mk (Kd.R_lower ho0 (below_size (by repeat (first | (with_reducible first | exact HB.out | apply z6_ | apply z4_ | apply z5_ | refine z3_ ?_ GE213.out | refine z3_ ?_ GE218.out) | exact HB.out)))); have n1_ := Aside0.mk (z20_ (g := gb213) (o := .cells #[.int .i64 a0_0, .slice A0_1 l0_1.length c0_1] 24 (0, 0)) (by (with_reducible repeat (first | refine z0_ ?_ _ | refine z1_ ?_ | refine z2_ ?_ _)); exact BK213.out) hb); have n2_ := Aside0.mk (z20_ (g := gb218) (o := .cells #[.int .i64 x219000_21, .slice A0_1 l0_1.length c0_1] 24 (0, 0)) (by (with_reducible repeat (first | refine z0_ ?_ _ | refine z1_ ?_ | refine z2_ ?_ _)); exact BK218.out) hb); have n3_ := Aside0.mk (z24_ (by repeat (first | (with_reducible first | exact HB.out | apply z6_ | apply z4_ | apply z5_ | refine z3_ ?_ GE213.out | refine z3_ ?_ GE218.out) | exact HB.out)) hb); clear BK213; clear BK218; clear HB; have HO224 := n0_; have BK213 := n1_; have BK218 := n2_; have HB := n3_; clear n0_ n1_ n2_ n3_; (try clear hb); (try clear hb2); (try clear hk); (try clear hi); (try clear ho0); (try clear A30)) | ((with_reducible refine gate_dst (N := 7) rfl ?_); refine box_event ?hg (N := 7) ?hd (cs := #[.bool false, .int .i64 0, .slice none 0 0]) (t := 30) ?hr ?_; (case hd => rfl); (case hg => rfl); (case hr => first | (go_simp; done) | (go_simp; rfl)); intro gb226 hg w150 hbox hb; have n0_ := Aside0.mk (z10_ (by (with_reducible repeat (first | apply z9_ | apply z7_ | apply z8_)); exact HO224.out) hb); have n1_ := Aside0.mk (z20_ (g := gb213) (o := .cells #[.int .i64 a0_0, .slice A0_1 l0_1.length c0_1] 24 (0, 0)) (by (with_reducible repeat (first | refine z0_ ?_ _ | refine z1_ ?_ | refine z2_ ?_ _)); exact BK213.out) hb); have n2_ := Aside0.mk (z20_ (g := gb218) (o := .cells #[.int .i64 x219000_21, .slice A0_1 l0_1.length c0_1] 24 (0, 0)) (by (with_reducible repeat (first | refine z0_ ?_ _ | refine z1_ ?_ | refine z2_ ?_ _)); exact BK218.out) hb); have n3_ := Aside0.mk (z24_ (by repeat (first | (with_reducible first | exact HB.out | apply z6_ | apply z4_ | apply z5_ | refine z3_ ?_ GE213.out | refine z3_ ?_ GE218.out) | exact HB.out)) hb); have n4_ := Aside0.mk (hbox); have n5_ := Aside0.mk ((by rw [hg]; exact (below_size (by repeat (first | (with_reducible first | exact HB.out | apply z6_ | apply z4_ | apply z5_ | refine z3_ ?_ GE213.out | refine z3_ ?_ GE218.out) | exact HB.out))) : w.heap.size ≤ gb226)); have n6_ := Aside0.mk ((by rw [hg]; exact (below_size (by repeat (first | (with_reducible first | exact HB.out | apply z6_ | apply z4_ | apply z5_ | refine z3_ ?_ GE213.out | refine z3_ ?_ GE218.out) | exact HB.out))) : w.heap.size ≤ gb226)); have n7_ := Aside0.mk ((by rw [hg]; exact Nat.ne_of_lt (blk_lt (g := gb213) (o := .cells #[.int .i64 a0_0, .slice A0_1 l0_1.length c0_1] 24 (0, 0)) (by (with_reducible repeat (first | refine z0_ ?_ _ | refine z1_ ?_ | refine z2_ ?_ _)); exact BK213.out)) : gb213 ≠ gb226)); have n8_ := Aside0.mk ((by rw [hg]; exact Nat.ne_of_gt (blk_lt (g := gb213) (o := .cells #[.int .i64 a0_0, .slice A0_1 l0_1.length c0_1] 24 (0, 0)) (by (with_reducible repeat (first | refine z0_ ?_ _ | refine z1_ ?_ | refine z2_ ?_ _)); exact BK213.out)) : gb226 ≠ gb213)); have n9_ := Aside0.mk ((by rw [hg]; exact Nat.ne_of_lt (blk_lt (g := gb218) (o := .cells #[.int .i64 x219000_21, .slice A0_1 l0_1.length c0_1] 24 (0, 0)) (by (with_reducible repeat (first | refine z0_ ?_ _ | refine z1_ ?_ | refine z2_ ?_ _)); exact BK218.out)) : gb218 ≠ gb226)); have n10_ := Aside0.mk ((by rw [hg]; exact Nat.ne_of_gt (blk_lt (g := gb218) (o := .cells #[.int .i64 x219000_21, .slice A0_1 l0_1.length c0_1] 24 (0, 0)) (by (with_reducible repeat (first | refine z0_ ?_ _ | refine z1_ ?_ | refine z2_ ?_ _)); exact BK218.out)) : gb226 ≠ gb218)); clear HO224; clear BK213; clear BK218; clear HB; have HO224 := n0_; have BK213 := n1_; have BK218 := n2_; have HB := n3_; have BK226 := n4_; have GW226 := n5_; have GE226 := n6_; have NB213_226 := n7_; have NB226_213 := n8_; have NB218_226 := n9_; have NB226_218 := n10_; clear n0_ n1_ n2_ n3_ n4_ n5_ n6_ n7_ n8_ n9_ n10_; clear hb hbox hg; have hnb151 := NB226_213.out; have hnc151 := NB213_226.out; have hnb152 := NB226_218.out; have hnc152 := NB218_226.out; have hcz153_0 : w150.cell? ⟨gb226, 0, none⟩ = some (.bool false) := (z23_ BK226.out 0).trans rfl; have hcz153_1 : w150.cell? ⟨gb226, 1, none⟩ = some (.int .i64 0) := (z23_ BK226.out 1).trans rfl; have hcz153_2 : w150.cell? ⟨gb226, 2, none⟩ = some (.slice none 0 0) := (z23_ BK226.out 2).trans rfl; have hfz153_0 := blk_frozen BK226.out 0; have hfz153_1 := blk_frozen BK226.out 1; have hfz153_2 := blk_frozen BK226.out 2; obtain ⟨Ao154, co154, eo154⟩ := Kd.R_slice HO224.out; subst eo154; have hcz155_0 : w150.cell? ⟨gb218, 0, none⟩ = some (.int .i64 x219000_21) := (z23_ BK218.out 0).trans rfl; have hcz155_1 : w150.cell? ⟨gb218, 1, none⟩ = some (.slice A0_1 l0_1.length c0_1) := (z23_ BK218.out 1).trans rfl; have hfz155_0 := blk_frozen BK218.out 0; have hfz155_1 := blk_frozen BK218.out 1) | ((with_reducible refine gate_callee (f := 11) rfl ?_); refine goesL_ (some 51) rfl rfl Tryd.func11 (by kernel_rfl) rfl #[.agg #[.int .i64 x219000_21, .slice A0_1 l0_1.length c0_1]] rfl (by (try simp only [List.map_toArray, List.map_cons, List.map_nil]); first | done | rfl | (simp only [List.length_drop, List.length_take]; rfl)) ?_; (with_reducible refine (gap_Least.calls x219000_21 _ _ l0_1 t227 t228 t229 t230 t233 _ ?side1 ?side2 A31.out).mono ?_); (case side1 => exact Kd.C_below HR0_1.out (by repeat (first | (with_reducible first | exact HB.out | apply z6_ | apply z4_ | apply z5_ | refine z3_ ?_ GE213.out | refine z3_ ?_ GE218.out | refine z3_ ?_ GE226.out) | exact HB.out))); (case side2 => exact HC0_1.out); rintro e w156 ⟨v231, rfl, ho0, hb⟩; refine ⟨_, rfl, ?_⟩; have n0_ := Aside0.mk (Kd.R_elder' (by (with_reducible repeat (first | apply z9_ | apply z7_ | apply z8_)); exact (Kd.R_mono (z12_ (p := ⟨gb226, 2, none⟩) (z12_ (p := ⟨gb226, 1, none⟩) (z12_ (p := ⟨gb226, 0, none⟩) (Kd.R_types HO224.out BK226.out (by decide)) (fun _ hk => hk.2) (.bool t220)) (fun _ hk => hk.2) (.int .i64 t221)) (fun _ hk => hk.2) (.slice Ao154 t222.length co154)) (fun _ h_ => h_.1))) (Kd.R_base ho0) hb); have n1_ := Aside0.mk (Kd.R_lower (Kd.R_new' ho0 (Kd.R_lt (by (with_reducible repeat (first | apply z9_ | apply z7_ | apply z8_)); exact (Kd.R_mono (z12_ (p := ⟨gb226, 2, none⟩) (z12_ (p := ⟨gb226, 1, none⟩) (z12_ (p := ⟨gb226, 0, none⟩) (Kd.R_types HO224.out BK226.out (by decide)) (fun _ hk => hk.2) (.bool t220)) (fun _ hk => hk.2) (.int .i64 t221)) (fun _ hk => hk.2) (.slice Ao154 t222.length co154)) (fun _ h_ => h_.1))))) (below_size (by repeat (first | (with_reducible first | exact HB.out | apply z6_ | apply z4_ | apply z5_ | refine z3_ ?_ GE213.out | refine z3_ ?_ GE218.out | refine z3_ ?_ GE226.out) | exact HB.out)))); have n2_ := Aside0.mk (z20_ (g := gb213) (o := .cells #[.int .i64 a0_0, .slice A0_1 l0_1.length c0_1] 24 (0, 0)) (by (with_reducible repeat (first | refine z0_ ?_ _ | refine z1_ ?_ | refine z2_ ?_ _)); refine blk_far ?_ NB213_226.out _; (with_reducible repeat (first | refine z0_ ?_ _ | refine z1_ ?_ | refine z2_ ?_ _)); refine blk_far ?_ NB213_226.out _; (with_reducible repeat (first | refine z0_ ?_ _ | refine z1_ ?_ | refine z2_ ?_ _)); refine blk_far ?_ NB213_226.out _; (with_reducible repeat (first | refine z0_ ?_ _ | refine z1_ ?_ | refine z2_ ?_ _)); exact BK213.out) hb); have n3_ := Aside0.mk (z20_ (g := gb218) (o := .cells #[.int .i64 x219000_21, .slice A0_1 l0_1.length c0_1] 24 (0, 0)) (by (with_reducible repeat (first | refine z0_ ?_ _ | refine z1_ ?_ | refine z2_ ?_ _)); refine blk_far ?_ NB218_226.out _; (with_reducible repeat (first | refine z0_ ?_ _ | refine z1_ ?_ | refine z2_ ?_ _)); refine blk_far ?_ NB218_226.out _; (with_reducible repeat (first | refine z0_ ?_ _ | refine z1_ ?_ | refine z2_ ?_ _)); refine blk_far ?_ NB218_226.out _; (with_reducible repeat (first | refine z0_ ?_ _ | refine z1_ ?_ | refine z2_ ?_ _)); exact BK218.out) hb); have n4_ := Aside0.mk (z20_ (g := gb226) (o := .cells #[.bool t220, .int .i64 t221, .slice Ao154 t222.length co154] 30 (0, 0)) (by (with_reducible repeat (first | refine z0_ ?_ _ | refine z1_ ?_ | refine z2_ ?_ _)); refine blk_put (cs := #[.bool t220, .int .i64 t221, .slice none 0 0]) ?_ 2 _ rfl; (with_reducible repeat (first | refine z0_ ?_ _ | refine z1_ ?_ | refine z2_ ?_ _)); refine blk_put (cs := #[.bool t220, .int .i64 0, .slice none 0 0]) ?_ 1 _ rfl; (with_reducible repeat (first | refine z0_ ?_ _ | refine z1_ ?_ | refine z2_ ?_ _)); refine blk_put (cs := #[.bool false, .int .i64 0, .slice none 0 0]) ?_ 0 _ rfl; (with_reducible repeat (first | refine z0_ ?_ _ | refine z1_ ?_ | refine z2_ ?_ _)); exact BK226.out) hb); have n5_ := Aside0.mk (z24_ (by repeat (first | (with_reducible first | exact HB.out | apply z6_ | apply z4_ | apply z5_ | refine z3_ ?_ GE213.out | refine z3_ ?_ GE218.out | refine z3_ ?_ GE226.out) | exact HB.out)) hb); clear HO224; clear BK213; clear BK218; clear BK226; clear HB; have HO224 := n0_; have HO232 := n1_; have BK213 := n2_; have BK218 := n3_; have BK226 := n4_; have HB := n5_; clear n0_ n1_ n2_ n3_ n4_ n5_; (try clear hb); (try clear hb2); (try clear hk); (try clear hi); (try clear ho0)) | ((with_reducible refine gate_dst (N := 10) rfl ?_); refine box_event ?hg (N := 10) ?hd (cs := #[.bool false, .int .i64 0, .slice none 0 0]) (t := 30) ?hr ?_; (case hd => rfl); (case hg => rfl); (case hr => first | (go_simp; done) | (go_simp; rfl)); intro gb234 hg w157 hbox hb; have n0_ := Aside0.mk (z10_ (by (with_reducible repeat (first | apply z9_ | apply z7_ | apply z8_)); exact HO224.out) hb); have n1_ := Aside0.mk (z10_ (by (with_reducible repeat (first | apply z9_ | apply z7_ | apply z8_)); exact HO232.out) hb); have n2_ := Aside0.mk (z20_ (g := gb213) (o := .cells #[.int .i64 a0_0, .slice A0_1 l0_1.length c0_1] 24 (0, 0)) (by (with_reducible repeat (first | refine z0_ ?_ _ | refine z1_ ?_ | refine z2_ ?_ _)); exact BK213.out) hb); have n3_ := Aside0.mk (z20_ (g := gb218) (o := .cells #[.int .i64 x219000_21, .slice A0_1 l0_1.length c0_1] 24 (0, 0)) (by (with_reducible repeat (first | refine z0_ ?_ _ | refine z1_ ?_ | refine z2_ ?_ _)); exact BK218.out) hb); have n4_ := Aside0.mk (z20_ (g := gb226) (o := .cells #[.bool t220, .int .i64 t221, .slice Ao154 t222.length co154] 30 (0, 0)) (by (with_reducible repeat (first | refine z0_ ?_ _ | refine z1_ ?_ | refine z2_ ?_ _)); exact BK226.out) hb); have n5_ := Aside0.mk (z24_ (by repeat (first | (with_reducible first | exact HB.out | apply z6_ | apply z4_ | apply z5_ | refine z3_ ?_ GE213.out | refine z3_ ?_ GE218.out | refine z3_ ?_ GE226.out) | exact HB.out)) hb); have n6_ := Aside0.mk (hbox); have n7_ := Aside0.mk ((by rw [hg]; exact (below_size (by repeat (first | (with_reducible first | exact HB.out | apply z6_ | apply z4_ | apply z5_ | refine z3_ ?_ GE213.out | refine z3_ ?_ GE218.out | refine z3_ ?_ GE226.out) | exact HB.out))) : w.heap.size ≤ gb234)); have n8_ := Aside0.mk ((by rw [hg]; exact (below_size (by repeat (first | (with_reducible first | exact HB.out | apply z6_ | apply z4_ | apply z5_ | refine z3_ ?_ GE213.out | refine z3_ ?_ GE218.out | refine z3_ ?_ GE226.out) | exact HB.out))) : w.heap.size ≤ gb234)); have n9_ := Aside0.mk ((by rw [hg]; exact Nat.ne_of_lt (blk_lt (g := gb213) (o := .cells #[.int .i64 a0_0, .slice A0_1 l0_1.length c0_1] 24 (0, 0)) (by (with_reducible repeat (first | refine z0_ ?_ _ | refine z1_ ?_ | refine z2_ ?_ _)); exact BK213.out)) : gb213 ≠ gb234)); have n10_ := Aside0.mk ((by rw [hg]; exact Nat.ne_of_gt (blk_lt (g := gb213) (o := .cells #[.int .i64 a0_0, .slice A0_1 l0_1.length c0_1] 24 (0, 0)) (by (with_reducible repeat (first | refine z0_ ?_ _ | refine z1_ ?_ | refine z2_ ?_ _)); exact BK213.out)) : gb234 ≠ gb213)); have n11_ := Aside0.mk ((by rw [hg]; exact Nat.ne_of_lt (blk_lt (g := gb218) (o := .cells #[.int .i64 x219000_21, .slice A0_1 l0_1.length c0_1] 24 (0, 0)) (by (with_reducible repeat (first | refine z0_ ?_ _ | refine z1_ ?_ | refine z2_ ?_ _)); exact BK218.out)) : gb218 ≠ gb234)); have n12_ := Aside0.mk ((by rw [hg]; exact Nat.ne_of_gt (blk_lt (g := gb218) (o := .cells #[.int .i64 x219000_21, .slice A0_1 l0_1.length c0_1] 24 (0, 0)) (by (with_reducible repeat (first | refine z0_ ?_ _ | refine z1_ ?_ | refine z2_ ?_ _)); exact BK218.out)) : gb234 ≠ gb218)); have n13_ := Aside0.mk ((by rw [hg]; exact Nat.ne_of_lt (blk_lt (g := gb226) (o := .cells #[.bool t220, .int .i64 t221, .slice Ao154 t222.length co154] 30 (0, 0)) (by (with_reducible repeat (first | refine z0_ ?_ _ | refine z1_ ?_ | refine z2_ ?_ _)); exact BK226.out)) : gb226 ≠ gb234)); have n14_ := Aside0.mk ((by rw [hg]; exact Nat.ne_of_gt (blk_lt (g := gb226) (o := .cells #[.bool t220, .int .i64 t221, .slice Ao154 t222.length co154] 30 (0, 0)) (by (with_reducible repeat (first | refine z0_ ?_ _ | refine z1_ ?_ | refine z2_ ?_ _)); exact BK226.out)) : gb234 ≠ gb226)); clear HO224; clear HO232; clear BK213; clear BK218; clear BK226; clear HB; have HO224 := n0_; have HO232 := n1_; have BK213 := n2_; have BK218 := n3_; have BK226 := n4_; have HB := n5_; have BK234 := n6_; have GW234 := n7_; have GE234 := n8_; have NB213_234 := n9_; have NB234_213 := n10_; have NB218_234 := n11_; have NB234_218 := n12_; have NB226_234 := n13_; have NB234_226 := n14_; clear n0_ n1_ n2_ n3_ n4_ n5_ n6_ n7_ n8_ n9_ n10_ n11_ n12_ n13_ n14_; clear hb hbox hg; have hnb158 := NB234_213.out; have hnc158 := NB213_234.out; have hnb159 := NB234_218.out; have hnc159 := NB218_234.out; have hnb160 := NB234_226.out; have hnc160 := NB226_234.out; have hcz161_0 : w157.cell? ⟨gb234, 0, none⟩ = some (.bool false) := (z23_ BK234.out 0).trans rfl; have hcz161_1 : w157.cell? ⟨gb234, 1, none⟩ = some (.int .i64 0) := (z23_ BK234.out 1).trans rfl; have hcz161_2 : w157.cell? ⟨gb234, 2, none⟩ = some (.slice none 0 0) := (z23_ BK234.out 2).trans rfl; have hfz161_0 := blk_frozen BK234.out 0; have hfz161_1 := blk_frozen BK234.out 1; have hfz161_2 := blk_frozen BK234.out 2; obtain ⟨Ao162, co162, eo162⟩ := Kd.R_slice HO232.out; subst eo162))
        go_ret
        exact ⟨by first | rfl | (simp [errW_none, errW_some] <;> rfl) | (simp [*, errW_none, errW_some] <;> rfl), by repeat (first | (with_reducible first | exact HB.out | apply z6_ | apply z4_ | apply z5_ | refine z3_ ?_ GE213.out | refine z3_ ?_ GE218.out | refine z3_ ?_ GE226.out | refine z3_ ?_ GE234.out) | exact HB.out)⟩
       ·rw [if_neg c146] at H
        have c146b0 : (t233 == 4) = false := beq_eq_false_iff_ne.mpr c146
        have c146b1 : (t233 != 4) = true := bne_iff_ne.mpr c146
        exact absurd ((Option.some.inj H).trans hr) (by decide)

end Go.Proofs.YtefenbhcbpfihaaDoor.Q
