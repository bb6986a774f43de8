-- Chapter 07's awake: true; the printed walk's one way to it (wip/genawake07.py), and what its calls answer.
-- HAND pendulum/pendulumlaw07.awake rounds=0 making=1
-- NEEDS pendulum/print.Set pendulum/print.Mode
import Derived.Test.YtadfcdpalcgghaaDoorM0
import Derived.Test.YtadfcdpalcgghaaDoorHprtC
namespace Go.Proofs.YtadfcdpalcgghaaDoor.Q
open Go.RowKit Go.Proofs.YtadfcdpalcgghaaDoorW.PrintWords Go.Proofs.YtadfcdpalcgghaaDoorW.PrintLast Go.Proofs.YtadfcdpalcgghaaDoorW.PrintMore
attribute [local go_sem] max2_int min2_int max_two min_two max_three min_three max_four min_four   -- for this text's walks alone
set_option linter.unusedVariables false
set_option linter.unusedSimpArgs false

def pendulumlaw07_awake.g  : Option (Bool) := (print_Set.f 2 (([(⟨(⟨#[97]⟩ : ByteArray), 9, 8, 3, 0, 2, 1, 1, 2, 1, 5⟩ : S26)] : List (S26)))).bind fun bt120 => ((print_Set.f 0 ([] : List (S26))).bind fun bt122 => (if bt120.2 = 0 then (if bt120.1.toList = ([98, 117, 114, 115, 116, 32, 50, 10, 116, 97, 115, 107, 32, 97, 32, 57, 32, 56, 32, 51, 32, 114, 101, 116, 114, 121, 32, 48, 32, 50, 32, 49, 32, 49, 32, 50, 32, 53, 10] : List UInt8) then (if bt122.2 = 1 then ((print_Mode.f 3).bind fun t124 => (if t124.toList = ([98, 97, 99, 107, 117, 112] : List UInt8) then ((print_Mode.f 9).bind fun t125 => (some (t125.toList == ([110, 111, 110, 101] : List UInt8)))) else (some false))) else (some false)) else (some false)) else (some false)))
set_option maxHeartbeats 8000000 in
set_option maxRecDepth 100000 in
theorem pendulumlaw07_awake.walk_  (r : Bool) (w : World) (h : pendulumlaw07_awake.g  = some r) (hr : r = true) (htab : TabS w.heap.size w) :
  Calls Tryd.prog 7 #[] w fun e w' => e = .returned (.bool r) ∧ Below w.heap.size w w' := by
 have HTAB := Aside0.mk htab
 clear htab
 have hu26 := Tryd.underlying26
 have hu24 := Tryd.underlying24
 have HB := Aside0.mk (Below.refl w.heap.size w)
 have H : ((print_Set.f 2 (([(⟨(⟨#[97]⟩ : ByteArray), 9, 8, 3, 0, 2, 1, 1, 2, 1, 5⟩ : S26)] : List (S26)))).bind fun bt120 => ((print_Set.f 0 ([] : List (S26))).bind fun bt122 => (if bt120.2 = 0 then (if bt120.1.toList = ([98, 117, 114, 115, 116, 32, 50, 10, 116, 97, 115, 107, 32, 97, 32, 57, 32, 56, 32, 51, 32, 114, 101, 116, 114, 121, 32, 48, 32, 50, 32, 49, 32, 49, 32, 50, 32, 53, 10] : List UInt8) then (if bt122.2 = 1 then ((print_Mode.f 3).bind fun t124 => (if t124.toList = ([98, 97, 99, 107, 117, 112] : List UInt8) then ((print_Mode.f 9).bind fun t125 => (some (t125.toList == ([110, 111, 110, 101] : List UInt8)))) else (some false))) else (some false)) else (some false)) else (some false)))) = some r := h
 clear h
 obtain ⟨y116, hy116⟩ : ∃ y_ : List (S26), y_ = (([(⟨(⟨#[97]⟩ : ByteArray), 9, 8, 3, 0, 2, 1, 1, 2, 1, 5⟩ : S26)] : List (S26))) := ⟨_, rfl⟩
 replace H : ((print_Set.f 2 y116).bind fun bt120 => ((print_Set.f 0 ([] : List (S26))).bind fun bt122 => (if bt120.2 = 0 then (if bt120.1.toList = ([98, 117, 114, 115, 116, 32, 50, 10, 116, 97, 115, 107, 32, 97, 32, 57, 32, 56, 32, 51, 32, 114, 101, 116, 114, 121, 32, 48, 32, 50, 32, 49, 32, 49, 32, 50, 32, 53, 10] : List UInt8) then (if bt122.2 = 1 then ((print_Mode.f 3).bind fun t124 => (if t124.toList = ([98, 97, 99, 107, 117, 112] : List UInt8) then ((print_Mode.f 9).bind fun t125 => (some (t125.toList == ([110, 111, 110, 101] : List UInt8)))) else (some false))) else (some false)) else (some false)) else (some false)))) = some r := by first | (rw [hy116]; with_reducible exact H) | (have H2_ := (Option.bind_some _ _).symm.trans H; rw [hy116]; with_reducible exact H2_) | (have H2_ := (Option.bind_some _ _).symm.trans H; with_reducible exact H2_) | with_reducible exact H | (rw [hy116]; exact H) | exact H
 have Ny116 := Aside0.mk hy116
 clear hy116
 replace H := Option.bind_eq_some_iff.mp H
 obtain ⟨⟨t120, t121⟩, A10, H⟩ := H
 replace H : ((print_Set.f 0 ([] : List (S26))).bind fun bt122 => (if t121 = 0 then (if t120.toList = ([98, 117, 114, 115, 116, 32, 50, 10, 116, 97, 115, 107, 32, 97, 32, 57, 32, 56, 32, 51, 32, 114, 101, 116, 114, 121, 32, 48, 32, 50, 32, 49, 32, 49, 32, 50, 32, 53, 10] : List UInt8) then (if bt122.2 = 1 then ((print_Mode.f 3).bind fun t124 => (if t124.toList = ([98, 97, 99, 107, 117, 112] : List UInt8) then ((print_Mode.f 9).bind fun t125 => (some (t125.toList == ([110, 111, 110, 101] : List UInt8)))) else (some false))) else (some false)) else (some false)) else (some false))) = some r := H
 have A1 := Aside0.mk A10
 clear A10
 replace H := Option.bind_eq_some_iff.mp H
 obtain ⟨⟨t122, t123⟩, A20, H⟩ := H
 replace H : (if t121 = 0 then (if t120.toList = ([98, 117, 114, 115, 116, 32, 50, 10, 116, 97, 115, 107, 32, 97, 32, 57, 32, 56, 32, 51, 32, 114, 101, 116, 114, 121, 32, 48, 32, 50, 32, 49, 32, 49, 32, 50, 32, 53, 10] : List UInt8) then (if t123 = 1 then ((print_Mode.f 3).bind fun t124 => (if t124.toList = ([98, 97, 99, 107, 117, 112] : List UInt8) then ((print_Mode.f 9).bind fun t125 => (some (t125.toList == ([110, 111, 110, 101] : List UInt8)))) else (some false))) else (some false)) else (some false)) else (some false)) = some r := H
 have A2 := Aside0.mk A20
 clear A20
 by_cases c3 : t121 = 0
 ·rw [if_pos c3] at H
  have c3b0 : (t121 == 0) = true := beq_iff_eq.mpr c3
  have c3b1 : (t121 != 0) = false := bne_eq_false_iff_eq.mpr c3
  clear c3
  by_cases c4 : t120.toList = ([98, 117, 114, 115, 116, 32, 50, 10, 116, 97, 115, 107, 32, 97, 32, 57, 32, 56, 32, 51, 32, 114, 101, 116, 114, 121, 32, 48, 32, 50, 32, 49, 32, 49, 32, 50, 32, 53, 10] : List UInt8)
  ·rw [if_pos c4] at H
   have c4b0 : (t120.toList == ([98, 117, 114, 115, 116, 32, 50, 10, 116, 97, 115, 107, 32, 97, 32, 57, 32, 56, 32, 51, 32, 114, 101, 116, 114, 121, 32, 48, 32, 50, 32, 49, 32, 49, 32, 50, 32, 53, 10] : List UInt8)) = true := beq_iff_eq.mpr c4
   have c4b1 : (t120.toList != ([98, 117, 114, 115, 116, 32, 50, 10, 116, 97, 115, 107, 32, 97, 32, 57, 32, 56, 32, 51, 32, 114, 101, 116, 114, 121, 32, 48, 32, 50, 32, 49, 32, 49, 32, 50, 32, 53, 10] : List UInt8)) = false := bne_eq_false_iff_eq.mpr c4
   clear c4
   by_cases c5 : t123 = 1
   ·rw [if_pos c5] at H
    have c5b0 : (t123 == 1) = true := beq_iff_eq.mpr c5
    have c5b1 : (t123 != 1) = false := bne_eq_false_iff_eq.mpr c5
    clear c5
    replace H := Option.bind_eq_some_iff.mp H
    obtain ⟨t124, A60, H⟩ := H
    replace H : (if t124.toList = ([98, 97, 99, 107, 117, 112] : List UInt8) then ((print_Mode.f 9).bind fun t125 => (some (t125.toList == ([110, 111, 110, 101] : List UInt8)))) else (some false)) = some r := H
    have A6 := Aside0.mk A60
    clear A60
    by_cases c7 : t124.toList = ([98, 97, 99, 107, 117, 112] : List UInt8)
    ·rw [if_pos c7] at H
     have c7b0 : (t124.toList == ([98, 97, 99, 107, 117, 112] : List UInt8)) = true := beq_iff_eq.mpr c7
     have c7b1 : (t124.toList != ([98, 97, 99, 107, 117, 112] : List UInt8)) = false := bne_eq_false_iff_eq.mpr c7
     clear c7
     replace H := Option.bind_eq_some_iff.mp H
     obtain ⟨t125, A80, H⟩ := H
     replace H : (some (t125.toList == ([110, 111, 110, 101] : List UInt8))) = some r := H
     have A8 := Aside0.mk A80
     clear A80
     obtain rfl := Option.some.inj H
     go_enter Tryd.func7, Tryd.ntmps7
     go_wp2_with (first | ((with_reducible refine gate_dst (N := 7) rfl ?_); refine Kd.R_lit k26 _ 26 ?hg (N := 7) ?hd (xs := ([(⟨(⟨#[97]⟩ : ByteArray), 9, 8, 3, 0, 2, 1, 1, 2, 1, 5⟩ : S26)] : List (S26))) (inner := [.string (⟨#[97]⟩ : ByteArray), .int .i64 9, .int .i64 8, .int .i64 3, .int .i64 0, .int .i64 2, .int .i64 1, .int .i64 1, .int .i64 2, .int .i64 1, .int .i64 5]) (ok := fun _ => True) (okp := fun _ => True) ?hr ?hp (fun _ hk => hk) trivial (Below.refl _ _) (Nat.le_refl _) (by simp) ?_; (case hd => rfl); (case hg => rfl); (case hr => first | (go_simp; done) | (go_simp; rfl)); (case hp => exact (Reps.front (show Kd.M k26 _ _ _ (⟨(⟨#[97]⟩ : ByteArray), 9, 8, 3, 0, 2, 1, 1, 2, 1, 5⟩ : S26) [.string (⟨#[97]⟩ : ByteArray), .int .i64 9, .int .i64 8, .int .i64 3, .int .i64 0, .int .i64 2, .int .i64 1, .int .i64 1, .int .i64 2, .int .i64 1, .int .i64 5] from (k26_mkM _ _ _ (⟨(⟨#[97]⟩ : ByteArray), 9, 8, 3, 0, 2, 1, 1, 2, 1, 5⟩ : S26) )) rfl (Reps.none _ _) rfl)); intro v117 w9 ho10 hb hg_ hnew_; clear hg_ hnew_; (first | rw [← Ny116.out] at ho10 | (simp only [Int.reduceToNat] at ho10; rw [← Ny116.out] at ho10)); have n0_ := Aside0.mk (Kd.R_lower ho10 (below_size (by repeat (first | (with_reducible first | exact HB.out | apply below_alloc | apply pw_below_drewN | apply below_drew1) | exact HB.out)))); have n1_ := Aside0.mk (below_step (by repeat (first | (with_reducible first | exact HB.out | apply below_alloc | apply pw_below_drewN | apply below_drew1) | exact HB.out)) hb); clear HB; have HO118 := n0_; have HB := n1_; clear n0_ n1_; clear hb ho10; obtain ⟨Ao11, co11, eo11⟩ := Kd.R_slice HO118.out; subst eo11) | ((with_reducible refine gate_dst (N := 1) rfl ?_); refine box_event ?hg (N := 1) ?hd (cs := #[.int .i64 0, .slice none 0 0]) (t := 24) ?hr ?_; (case hd => rfl); (case hg => rfl); (case hr => first | (go_simp; done) | (go_simp; rfl)); intro gb119 hg w12 hbox hb; have n0_ := Aside0.mk (Kd.R_below (by (with_reducible repeat (first | apply Kd.R_alloc | apply Kd.R_drewN | apply Kd.R_drew)); exact HO118.out) hb); have n1_ := Aside0.mk (below_step (by repeat (first | (with_reducible first | exact HB.out | apply below_alloc | apply pw_below_drewN | apply below_drew1) | exact HB.out)) hb); have n2_ := Aside0.mk (hbox); have n3_ := Aside0.mk ((by rw [hg]; exact (below_size (by repeat (first | (with_reducible first | exact HB.out | apply below_alloc | apply pw_below_drewN | apply below_drew1) | exact HB.out))) : w.heap.size ≤ gb119)); have n4_ := Aside0.mk ((by rw [hg]; exact (below_size (by repeat (first | (with_reducible first | exact HB.out | apply below_alloc | apply pw_below_drewN | apply below_drew1) | exact HB.out))) : w.heap.size ≤ gb119)); clear HO118; clear HB; have HO118 := n0_; have HB := n1_; have BK119 := n2_; have GW119 := n3_; have GE119 := n4_; clear n0_ n1_ n2_ n3_ n4_; clear hb hbox hg; have hcz13_0 : w12.cell? ⟨gb119, 0, none⟩ = some (.int .i64 0) := (blk_cell BK119.out 0).trans rfl; have hcz13_1 : w12.cell? ⟨gb119, 1, none⟩ = some (.slice none 0 0) := (blk_cell BK119.out 1).trans rfl; have hfz13_0 := blk_frozen BK119.out 0; have hfz13_1 := blk_frozen BK119.out 1) | ((with_reducible refine gate_callee (f := 9) rfl ?_); refine goesL_ (some 11) rfl rfl Tryd.func9 (by kernel_rfl) rfl #[.agg #[.int .i64 2, .slice Ao11 y116.length co11]] rfl (by (try simp only [List.map_toArray, List.map_cons, List.map_nil]); first | done | rfl | (simp only [List.length_drop, List.length_take]; rfl)) ?_; (with_reducible refine (print_Set.calls 2 _ _ y116 t120 t121 _ ?side1 ?side2 A1.out (TabS.step HTAB.out (by repeat (first | (with_reducible first | exact HB.out | apply below_alloc | apply pw_below_drewN | apply below_drew1 | refine below_set ?_ GE119.out) | exact HB.out)))).mono ?_); (case side1 => refine (Kd.R_reads' (e := 26) (base := w.heap.size) (ok := fun k_ => True) (n := y116.length) (c := co11) ?_).2.2; exact (by (with_reducible repeat (first | apply Kd.R_alloc | apply Kd.R_drewN | apply Kd.R_drew)); exact (Kd.R_mono (Kd.R_far (p := ⟨gb119, 1, none⟩) (Kd.R_far (p := ⟨gb119, 0, none⟩) (Kd.R_types HO118.out BK119.out (by decide)) (fun _ hk => hk.2) (.int .i64 2)) (fun _ hk => hk.2) (.slice Ao11 y116.length co11)) (fun _ h_ => h_.1)))); (case side2 => exact (Kd.R_reads' HO118.out).2.1); rintro e w14 ⟨rfl, hb⟩; refine ⟨_, rfl, ?_⟩; have n0_ := Aside0.mk (Kd.R_below (by (with_reducible repeat (first | apply Kd.R_alloc | apply Kd.R_drewN | apply Kd.R_drew)); exact (Kd.R_mono (Kd.R_far (p := ⟨gb119, 1, none⟩) (Kd.R_far (p := ⟨gb119, 0, none⟩) (Kd.R_types HO118.out BK119.out (by decide)) (fun _ hk => hk.2) (.int .i64 2)) (fun _ hk => hk.2) (.slice Ao11 y116.length co11)) (fun _ h_ => h_.1))) hb); have n1_ := Aside0.mk (blk_below (g := gb119) (o := .cells #[.int .i64 2, .slice Ao11 y116.length co11] 24 (0, 0)) (by (with_reducible repeat (first | refine blk_drewN ?_ _ | refine blk_drew ?_ | refine blk_alloc ?_ _)); refine blk_put (cs := #[.int .i64 2, .slice none 0 0]) ?_ 1 _ rfl; (with_reducible repeat (first | refine blk_drewN ?_ _ | refine blk_drew ?_ | refine blk_alloc ?_ _)); refine blk_put (cs := #[.int .i64 0, .slice none 0 0]) ?_ 0 _ rfl; (with_reducible repeat (first | refine blk_drewN ?_ _ | refine blk_drew ?_ | refine blk_alloc ?_ _)); exact BK119.out) hb); have n2_ := Aside0.mk (below_step (by repeat (first | (with_reducible first | exact HB.out | apply below_alloc | apply pw_below_drewN | apply below_drew1 | refine below_set ?_ GE119.out) | exact HB.out)) hb); clear HO118; clear BK119; clear HB; have HO118 := n0_; have BK119 := n1_; have HB := n2_; clear n0_ n1_ n2_; (try clear hb); (try clear hb2); (try clear hk); (try clear hi)) | ((with_reducible refine gate_callee (f := 9) rfl ?_); refine goesL_ (some 16) rfl rfl Tryd.func9 (by kernel_rfl) rfl #[.agg #[.int .i64 0, .slice none 0 0]] rfl (by (try simp only [List.map_toArray, List.map_cons, List.map_nil]); first | done | rfl | (simp only [List.length_drop, List.length_take]; rfl)) ?_; (refine (print_Set.calls 0 _ _ ([] : List (S26)) t122 t123 _ ?side1 ?side2 A2.out (TabS.step HTAB.out (by repeat (first | (with_reducible first | exact HB.out | apply below_alloc | apply pw_below_drewN | apply below_drew1 | refine below_set ?_ GE119.out) | exact HB.out)))).mono ?_); (case side1 => exact Kd.C_nil _ _); (case side2 => exact Nat.le_refl _); rintro e w15 ⟨rfl, hb⟩; refine ⟨_, rfl, ?_⟩; have n0_ := Aside0.mk (Kd.R_below (by (with_reducible repeat (first | apply Kd.R_alloc | apply Kd.R_drewN | apply Kd.R_drew)); exact HO118.out) hb); have n1_ := Aside0.mk (blk_below (g := gb119) (o := .cells #[.int .i64 2, .slice Ao11 y116.length co11] 24 (0, 0)) (by (with_reducible repeat (first | refine blk_drewN ?_ _ | refine blk_drew ?_ | refine blk_alloc ?_ _)); exact BK119.out) hb); have n2_ := Aside0.mk (below_step (by repeat (first | (with_reducible first | exact HB.out | apply below_alloc | apply pw_below_drewN | apply below_drew1 | refine below_set ?_ GE119.out) | exact HB.out)) hb); clear HO118; clear BK119; clear HB; have HO118 := n0_; have BK119 := n1_; have HB := n2_; clear n0_ n1_ n2_; (try clear hb); (try clear hb2); (try clear hk); (try clear hi)) | (go_at_call 12; (with_reducible refine (print_Mode.calls 3 t124 _ A6.out).mono ?_); rintro e w' ⟨rfl, ⟨nd, rfl⟩⟩; (try clear A6)) | (go_at_call 12; (with_reducible refine (print_Mode.calls 9 t125 _ A8.out).mono ?_); rintro e w' ⟨rfl, ⟨nd, rfl⟩⟩))
     go_ret
     exact ⟨by first | rfl | (simp [errW_none, errW_some] <;> rfl) | (simp [*, errW_none, errW_some] <;> rfl), by repeat (first | (with_reducible first | exact HB.out | apply below_alloc | apply pw_below_drewN | apply below_drew1 | refine below_set ?_ GE119.out) | exact HB.out)⟩
    ·rw [if_neg c7] at H
     have c7b0 : (t124.toList == ([98, 97, 99, 107, 117, 112] : List UInt8)) = false := beq_eq_false_iff_ne.mpr c7
     have c7b1 : (t124.toList != ([98, 97, 99, 107, 117, 112] : List UInt8)) = true := bne_iff_ne.mpr c7
     exact absurd ((Option.some.inj H).trans hr) (by decide)
   ·rw [if_neg c5] at H
    have c5b0 : (t123 == 1) = false := beq_eq_false_iff_ne.mpr c5
    have c5b1 : (t123 != 1) = true := bne_iff_ne.mpr c5
    exact absurd ((Option.some.inj H).trans hr) (by decide)
  ·rw [if_neg c4] at H
   have c4b0 : (t120.toList == ([98, 117, 114, 115, 116, 32, 50, 10, 116, 97, 115, 107, 32, 97, 32, 57, 32, 56, 32, 51, 32, 114, 101, 116, 114, 121, 32, 48, 32, 50, 32, 49, 32, 49, 32, 50, 32, 53, 10] : List UInt8)) = false := beq_eq_false_iff_ne.mpr c4
   have c4b1 : (t120.toList != ([98, 117, 114, 115, 116, 32, 50, 10, 116, 97, 115, 107, 32, 97, 32, 57, 32, 56, 32, 51, 32, 114, 101, 116, 114, 121, 32, 48, 32, 50, 32, 49, 32, 49, 32, 50, 32, 53, 10] : List UInt8)) = true := bne_iff_ne.mpr c4
   exact absurd ((Option.some.inj H).trans hr) (by decide)
 ·rw [if_neg c3] at H
  have c3b0 : (t121 == 0) = false := beq_eq_false_iff_ne.mpr c3
  have c3b1 : (t121 != 0) = true := bne_iff_ne.mpr c3
  exact absurd ((Option.some.inj H).trans hr) (by decide)
theorem itoa_dig (n : Nat) (h : n < 10) : Lib.itoa (n : Int) = [UInt8.ofNat (48 + n)] := by rw [Lib.itoa_nonneg, Lib.decDigits_one h]
def ts07 : List TK := [⟨⟨#[97]⟩, 9, 8, 3, 0, 2, 1, 1, 2, 1, 5⟩]
theorem text07 : textB 2 ts07 = [98, 117, 114, 115, 116, 32, 50, 10, 116, 97, 115, 107, 32, 97, 32, 57, 32, 56, 32, 51, 32, 114, 101, 116, 114, 121, 32, 48, 32, 50, 32, 49, 32, 49, 32, 50, 32, 53, 10] := by
 simp only [textB, linesB, ts07, List.flatMap_cons, List.flatMap_nil, lineB, numsB, show Lib.itoa 0 = [48] from itoa_dig 0 (by decide), show Lib.itoa 1 = [49] from itoa_dig 1 (by decide), show Lib.itoa 2 = [50] from itoa_dig 2 (by decide), show Lib.itoa 3 = [51] from itoa_dig 3 (by decide), show Lib.itoa 5 = [53] from itoa_dig 5 (by decide), show Lib.itoa 8 = [56] from itoa_dig 8 (by decide), show Lib.itoa 9 = [57] from itoa_dig 9 (by decide)]
 rfl
theorem set07 : print_Set.f 2 ts07 = some (⟨#[98, 117, 114, 115, 116, 32, 50, 10, 116, 97, 115, 107, 32, 97, 32, 57, 32, 56, 32, 51, 32, 114, 101, 116, 114, 121, 32, 48, 32, 50, 32, 49, 32, 49, 32, 50, 32, 53, 10]⟩, 0) := by
 unfold print_Set.f
 rw [if_pos (show (whyS 2 ts07).1 = 0 by kernel_rfl), if_pos ⟨by decide, by unfold ts07 intT; simp; decide, by decide⟩, text07]
theorem nil07 : print_Set.f 0 [] = some (⟨#[]⟩, 1) := by
 unfold print_Set.f
 rw [if_neg (show ¬(whyS 0 []).1 = 0 by decide)]
theorem law07_g : pendulumlaw07_awake.g = some true := by
 unfold pendulumlaw07_awake.g
 have h := set07
 unfold ts07 at h
 rw [h]
 simp only [Option.bind_some, nil07, mode_eval, Lib.toList_data]
 rfl
def pendulumlaw07_awake.f : Option Bool := some true
theorem pendulumlaw07_awake.calls (r : Bool) (w : World) (h : pendulumlaw07_awake.f = some r) (ht : TabS w.heap.size w) :
  Calls Tryd.prog 7 #[] w fun e w' => e = .returned (.bool r) ∧ Below w.heap.size w w' := by
 have e := Option.some.inj h
 exact pendulumlaw07_awake.walk_ r w (by rw [law07_g, e]) e.symm ht
end Go.Proofs.YtadfcdpalcgghaaDoor.Q
