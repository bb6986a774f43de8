-- Texts of this claim, put together: Q11, Q9, LfixE, HfixA, HfixB.
import Derived.Test.YtjknaokhcbjbhaaDoorM0
import Derived.IntWalk
import Derived.WalkSpells
-- Written for this claim by the session's own driver (wip/qprint.py) over the kit's printer, out of the translation. Not trusted: Lean checks it.
namespace Go.Proofs.YtjknaokhcbjbhaaDoor.Q
open Go.RowKit Go.Proofs.YtjknaokhcbjbhaaDoorW.PrintWords Go.Proofs.YtjknaokhcbjbhaaDoorW.PrintLast Go.Proofs.YtjknaokhcbjbhaaDoorW.PrintMore
attribute [local go_sem] max2_int min2_int max_two min_two max_three min_three max_four min_four   -- for this text's walks alone
set_option linter.unusedVariables false
set_option linter.unusedSimpArgs false

/-! ### tick_Add: function 66 -/
def tick_Add.f (a0 : Int) (a1 : Int) : Option (Int × Bool) := (tick_time.f a0).bind fun t124 => (if t124 = true then ((tick_time.f a1).bind fun t125 => (if t125 = true then (if a0 > (wrap64 (4611686018427387904 - a1)) then (some (0, false)) else (some (wrap64 (a0 + a1), true))) else (some (0, false)))) else (some (0, false)))
set_option maxHeartbeats 8000000 in
set_option maxRecDepth 100000 in
theorem tick_Add.calls (a0 : Int) (a1 : Int) (r1 : Int) (r2 : Bool) (w : World) (h : tick_Add.f a0 a1 = some (r1, r2)) :
  Calls Tryd.prog 66 #[.int .i64 a0, .int .i64 a1] w fun e w' => e = .returned (.tuple #[.int .i64 r1, .bool r2]) ∧ Drawn0 w w' := by
 have H : ((tick_time.f a0).bind fun t124 => (if t124 = true then ((tick_time.f a1).bind fun t125 => (if t125 = true then (if a0 > (wrap64 (4611686018427387904 - a1)) then (some (0, false)) else (some (wrap64 (a0 + a1), true))) else (some (0, false)))) else (some (0, false)))) = some (r1, r2) := h
 clear h
 replace H := Option.bind_eq_some_iff.mp H
 obtain ⟨t124, A30, H⟩ := H
 replace H : (if t124 = true then ((tick_time.f a1).bind fun t125 => (if t125 = true then (if a0 > (wrap64 (4611686018427387904 - a1)) then (some (0, false)) else (some (wrap64 (a0 + a1), true))) else (some (0, false)))) else (some (0, false))) = some (r1, r2) := H
 have A3 := Aside0.mk A30
 clear A30
 by_cases c4 : t124 = true
 ·subst c4
  have H1 : ((tick_time.f a1).bind fun t125 => (if t125 = true then (if a0 > (wrap64 (4611686018427387904 - a1)) then (some (0, false)) else (some (wrap64 (a0 + a1), true))) else (some (0, false)))) = some (r1, r2) := by rw [if_pos rfl] at H; exact H
  clear H
  have H := H1
  clear H1
  replace H := Option.bind_eq_some_iff.mp H
  obtain ⟨t125, A50, H⟩ := H
  replace H : (if t125 = true then (if a0 > (wrap64 (4611686018427387904 - a1)) then (some (0, false)) else (some (wrap64 (a0 + a1), true))) else (some (0, false))) = some (r1, r2) := H
  have A5 := Aside0.mk A50
  clear A50
  by_cases c6 : t125 = true
  ·subst c6
   have H1 : (if a0 > (wrap64 (4611686018427387904 - a1)) then (some (0, false)) else (some (wrap64 (a0 + a1), true))) = some (r1, r2) := by rw [if_pos rfl] at H; exact H
   clear H
   have H := H1
   clear H1
   by_cases c7 : a0 > (wrap64 (4611686018427387904 - a1))
   ·rw [if_pos c7] at H
    have c7b0 : decide ((wrap64 (4611686018427387904 - a1)) < a0) = true := decide_eq_true c7
    clear c7
    simp only [Option.some.injEq, Prod.mk.injEq] at H
    obtain ⟨rfl, rfl⟩ := H
    go_enter Tryd.func66, Tryd.ntmps66
    go_wp2_with (first | ((with_reducible refine gate_callee (f := 65) rfl ?_); refine goesL_ (some 7) rfl rfl Tryd.func65 (by kernel_rfl) rfl #[.int .i64 a0] rfl (by (try simp only [List.map_toArray, List.map_cons, List.map_nil]); first | done | rfl | (simp only [List.length_drop, List.length_take]; rfl)) ?_; (with_reducible refine (tick_time.calls a0 true _ A3.out).mono ?_); rintro e w' ⟨rfl, ⟨nd, rfl⟩⟩; refine ⟨_, rfl, ?_⟩; (try clear A3)) | (go_at_call 65; (with_reducible refine (tick_time.calls a1 true _ A5.out).mono ?_); rintro e w' ⟨rfl, ⟨nd, rfl⟩⟩))
    go_ret2
    exact ⟨by first | rfl | (simp; done) | (simp [*]; done), by repeat (first | exact Drawn0.refl _ | apply Drawn0.step)⟩
   ·rw [if_neg c7] at H
    have c7b0 : decide ((wrap64 (4611686018427387904 - a1)) < a0) = false := decide_eq_false c7
    clear c7
    simp only [Option.some.injEq, Prod.mk.injEq] at H
    obtain ⟨rfl, rfl⟩ := H
    go_enter Tryd.func66, Tryd.ntmps66
    go_wp2_with (first | ((with_reducible refine gate_callee (f := 65) rfl ?_); refine goesL_ (some 7) rfl rfl Tryd.func65 (by kernel_rfl) rfl #[.int .i64 a0] rfl (by (try simp only [List.map_toArray, List.map_cons, List.map_nil]); first | done | rfl | (simp only [List.length_drop, List.length_take]; rfl)) ?_; (with_reducible refine (tick_time.calls a0 true _ A3.out).mono ?_); rintro e w' ⟨rfl, ⟨nd, rfl⟩⟩; refine ⟨_, rfl, ?_⟩; (try clear A3)) | (go_at_call 65; (with_reducible refine (tick_time.calls a1 true _ A5.out).mono ?_); rintro e w' ⟨rfl, ⟨nd, rfl⟩⟩))
    go_ret2
    exact ⟨by first | rfl | (simp; done) | (simp [*]; done), by repeat (first | exact Drawn0.refl _ | apply Drawn0.step)⟩
  ·replace c6 := Bool.eq_false_iff.mpr c6
   subst c6
   have H1 : (some (0, false)) = some (r1, r2) := by rw [if_neg (show ¬ (false = true) by decide)] at H; exact H
   clear H
   have H := H1
   clear H1
   simp only [Option.some.injEq, Prod.mk.injEq] at H
   obtain ⟨rfl, rfl⟩ := H
   go_enter Tryd.func66, Tryd.ntmps66
   go_wp2_with (first | ((with_reducible refine gate_callee (f := 65) rfl ?_); refine goesL_ (some 7) rfl rfl Tryd.func65 (by kernel_rfl) rfl #[.int .i64 a0] rfl (by (try simp only [List.map_toArray, List.map_cons, List.map_nil]); first | done | rfl | (simp only [List.length_drop, List.length_take]; rfl)) ?_; (with_reducible refine (tick_time.calls a0 true _ A3.out).mono ?_); rintro e w' ⟨rfl, ⟨nd, rfl⟩⟩; refine ⟨_, rfl, ?_⟩; (try clear A3)) | (go_at_call 65; (with_reducible refine (tick_time.calls a1 false _ A5.out).mono ?_); rintro e w' ⟨rfl, ⟨nd, rfl⟩⟩))
   go_ret2
   exact ⟨by first | rfl | (simp; done) | (simp [*]; done), by repeat (first | exact Drawn0.refl _ | apply Drawn0.step)⟩
 ·replace c4 := Bool.eq_false_iff.mpr c4
  subst c4
  have H1 : (some (0, false)) = some (r1, r2) := by rw [if_neg (show ¬ (false = true) by decide)] at H; exact H
  clear H
  have H := H1
  clear H1
  simp only [Option.some.injEq, Prod.mk.injEq] at H
  obtain ⟨rfl, rfl⟩ := H
  go_enter Tryd.func66, Tryd.ntmps66
  go_wp2_with (first | ((with_reducible refine gate_callee (f := 65) rfl ?_); refine goesL_ (some 7) rfl rfl Tryd.func65 (by kernel_rfl) rfl #[.int .i64 a0] rfl (by (try simp only [List.map_toArray, List.map_cons, List.map_nil]); first | done | rfl | (simp only [List.length_drop, List.length_take]; rfl)) ?_; (with_reducible refine (tick_time.calls a0 false _ A3.out).mono ?_); rintro e w' ⟨rfl, ⟨nd, rfl⟩⟩; refine ⟨_, rfl, ?_⟩))
  go_ret2
  exact ⟨by first | rfl | (simp; done) | (simp [*]; done), by repeat (first | exact Drawn0.refl _ | apply Drawn0.step)⟩

/-! ### tick_Sum: function 44 -/
def tick_Sum.l0 : Nat → Int → List Int → Int → Int → Option (Int × Bool)
 | 0, _, _, _, _ => none
 | k + 1, x4, x8, x9, x10 => if x10 < x9 then (if 0 ≤ x10 then (if x10 < (x8.length : Int) then ((tick_Add.f x4 (rd x8 x10)).bind fun bt127 => (if bt127.2 = true then (tick_Sum.l0 k bt127.1 x8 x9 (wrap64 (x10 + 1))) else (some (0, false)))) else (none)) else (none)) else (some (x4, true))
def tick_Sum.f (k : Nat) (l0 : List Int) : Option (Int × Bool) := tick_Sum.l0 k 0 l0 (l0.length : Int) 0
theorem tick_Sum.mono_l : ∀ k, (∀ y0 y1 y2 y3, LeO (tick_Sum.l0 k y0 y1 y2 y3) (tick_Sum.l0 (k + 1) y0 y1 y2 y3))
 | 0 => fun _ _ _ _ r h => by simp [tick_Sum.l0] at h
 | k + 1 => by
  have ih0 := tick_Sum.mono_l k
  ·intro y0 y1 y2 y3
   unfold tick_Sum.l0
   repeat' first
   | (with_reducible exact ih0 _ _ _ _)
   | (with_reducible exact LeO.refl _)
   | (with_reducible exact LeO.none _)
   | (with_reducible refine LeO.ite ?_ ?_)
   | (with_reducible refine LeO.bind ?_ (fun _ => ?_))
   | exact ih0 _ _ _ _
   | exact LeO.none _
   | refine LeO.ite ?_ ?_
   | refine LeO.bind ?_ (fun _ => ?_)
theorem tick_Sum.mono : ∀ a0 k, LeO (tick_Sum.f k a0) (tick_Sum.f (k + 1) a0) := by
 intro a0 k
 have ih0 := tick_Sum.mono_l k
 unfold tick_Sum.f
 repeat' first
   | (with_reducible exact ih0 _ _ _ _)
   | (with_reducible exact LeO.refl _)
   | (with_reducible exact LeO.none _)
   | (with_reducible refine LeO.ite ?_ ?_)
   | (with_reducible refine LeO.bind ?_ (fun _ => ?_))
   | exact ih0 _ _ _ _
   | exact LeO.none _
   | refine LeO.ite ?_ ?_
   | refine LeO.bind ?_ (fun _ => ?_)
set_option maxHeartbeats 8000000 in
set_option maxRecDepth 100000 in
theorem tick_Sum.calls (k : Nat) (A0 : Option Addr) (c0 : Nat) (l0 : List Int) (r1 : Int) (r2 : Bool) (w : World) (hr0 : Kd.C (Kd.int .i64) w A0 l0.length l0) (hc0 : l0.length ≤ c0) (h : tick_Sum.f k l0 = some (r1, r2)) :
  Calls Tryd.prog 44 #[.slice A0 l0.length c0] w fun e w' => e = .returned (.tuple #[.int .i64 r1, .bool r2]) ∧ Drawn0 w w' := by
 have HR0 := Aside0.mk hr0
 have HC0 := Aside0.mk hc0
 clear hr0 hc0
 have H : (tick_Sum.l0 k 0 l0 (l0.length : Int) 0) = some (r1, r2) := h
 clear h
 have H' := Aside0.mk H
 clear H
 go_enter Tryd.func44, Tryd.ntmps44
 go_wp2
 go_loopg [4, 10] k (fun kq v4 v10 w' => ∃ (x4_1 : Int) (x10_1 : Int), v4 = .int .i64 x4_1 ∧ v10 = .int .i64 x10_1 ∧ Aside0 (tick_Sum.l0 kq x4_1 l0 (l0.length : Int) x10_1 = some (r1, r2)) ∧ Aside0 (kq ≤ k) ∧ Drawn0 w w')
 case atStart => exact ⟨(0), (0), (by first | rfl | (simp; done) | (simp [*]; done)), (by first | rfl | (simp; done) | (simp [*]; done)), H', ⟨Nat.le_refl _⟩, by repeat (first | exact Drawn0.refl _ | apply Drawn0.step)⟩
 case round =>
  clear H'
  obtain ⟨x4_1, x10_1, rfl, rfl, HA, HK1, ⟨m1, rfl⟩⟩ := hrel
  cases gk with
  | zero => exact absurd HA.out (by simp [tick_Sum.l0])
  | succ k1 =>
   have H := HA.out
   clear HA
   simp only [tick_Sum.l0] at H
   by_cases c2 : x10_1 < (l0.length : Int)
   ·rw [if_pos c2] at H
    have c2b0 : decide (x10_1 < (l0.length : Int)) = true := decide_eq_true c2
    clear c2
    by_cases c3 : 0 ≤ x10_1
    ·rw [if_pos c3] at H
     have c3b0 : decide (0 ≤ x10_1) = true := decide_eq_true c3
     clear c3
     by_cases c4 : x10_1 < (l0.length : Int)
     ·rw [if_pos c4] at H
      have c4b0 : decide (x10_1 < (l0.length : Int)) = true := decide_eq_true c4
      clear c4
      replace H := Option.bind_eq_some_iff.mp H
      obtain ⟨⟨t127, t128⟩, A50, H⟩ := H
      replace H : (if t128 = true then (tick_Sum.l0 k1 t127 l0 (l0.length : Int) (wrap64 (x10_1 + 1))) else (some (0, false))) = some (r1, r2) := H
      have A5 := Aside0.mk A50
      clear A50
      by_cases c6 : t128 = true
      ·subst c6
       have H1 : (tick_Sum.l0 k1 t127 l0 (l0.length : Int) (wrap64 (x10_1 + 1))) = some (r1, r2) := by rw [if_pos rfl] at H; exact H
       clear H
       have H := H1
       clear H1
       have H' := Aside0.mk H
       clear H
       have p126 : 0 ≤ (x10_1 : Int) := of_decide_eq_true (by first | (with_reducible assumption) | assumption)
       have q126 : x10_1 < (l0.length : Int) := of_decide_eq_true (by first | (with_reducible assumption) | assumption)
       obtain ⟨ad126, e126, hx126_0⟩ := Kd.at_int HR0.out x10_1 p126 q126
       cases e126
       replace p126 := eq_true p126
       replace q126 := eq_true q126
       go_wp2_with (first | ((with_reducible refine gate_callee (f := 66) rfl ?_); refine goesL_ (some 17) rfl rfl Tryd.func66 (by kernel_rfl) rfl #[.int .i64 x4_1, .int .i64 (rd l0 x10_1)] rfl (by (try simp only [List.map_toArray, List.map_cons, List.map_nil]); first | done | rfl | (simp only [List.length_drop, List.length_take]; rfl)) ?_; (with_reducible refine (tick_Add.calls x4_1 (rd l0 x10_1) t127 true _ A5.out).mono ?_); rintro e w' ⟨rfl, ⟨nd, rfl⟩⟩; refine ⟨_, rfl, ?_⟩))
       go_roundg k1
       case measure => have := HK1.out; omega
       case rel => exact ⟨(t127), (wrap64 (x10_1 + 1)), (by first | rfl | (simp; done) | (simp [*]; done)), (by first | rfl | (simp; done) | (simp [*]; done)), H', ⟨by have := HK1.out; omega⟩, by repeat (first | exact Drawn0.refl _ | apply Drawn0.step)⟩
      ·replace c6 := Bool.eq_false_iff.mpr c6
       subst c6
       have H1 : (some (0, false)) = some (r1, r2) := by rw [if_neg (show ¬ (false = true) by decide)] at H; exact H
       clear H
       have H := H1
       clear H1
       simp only [Option.some.injEq, Prod.mk.injEq] at H
       obtain ⟨rfl, rfl⟩ := H
       have p126 : 0 ≤ (x10_1 : Int) := of_decide_eq_true (by first | (with_reducible assumption) | assumption)
       have q126 : x10_1 < (l0.length : Int) := of_decide_eq_true (by first | (with_reducible assumption) | assumption)
       obtain ⟨ad126, e126, hx126_0⟩ := Kd.at_int HR0.out x10_1 p126 q126
       cases e126
       replace p126 := eq_true p126
       replace q126 := eq_true q126
       go_wp2_with (first | ((with_reducible refine gate_callee (f := 66) rfl ?_); refine goesL_ (some 17) rfl rfl Tryd.func66 (by kernel_rfl) rfl #[.int .i64 x4_1, .int .i64 (rd l0 x10_1)] rfl (by (try simp only [List.map_toArray, List.map_cons, List.map_nil]); first | done | rfl | (simp only [List.length_drop, List.length_take]; rfl)) ?_; (with_reducible refine (tick_Add.calls x4_1 (rd l0 x10_1) t127 false _ A5.out).mono ?_); rintro e w' ⟨rfl, ⟨nd, rfl⟩⟩; refine ⟨_, rfl, ?_⟩))
       go_ret2
       exact ⟨by first | rfl | (simp; done) | (simp [*]; done), by repeat (first | exact Drawn0.refl _ | apply Drawn0.step)⟩
     ·rw [if_neg c4] at H
      exact absurd H (by simp)
    ·rw [if_neg c3] at H
     exact absurd H (by simp)
   ·rw [if_neg c2] at H
    have c2b0 : decide (x10_1 < (l0.length : Int)) = false := decide_eq_false c2
    clear c2
    simp only [Option.some.injEq, Prod.mk.injEq] at H
    obtain ⟨rfl, rfl⟩ := H
    go_wp2
    go_ret2
    exact ⟨by first | rfl | (simp; done) | (simp [*]; done), by repeat (first | exact Drawn0.refl _ | apply Drawn0.step)⟩

end Go.Proofs.YtjknaokhcbjbhaaDoor.Q

-- Written for this claim by the session's own driver (wip/qprint.py) over the kit's printer, out of the translation. Not trusted: Lean checks it.
namespace Go.Proofs.YtjknaokhcbjbhaaDoor.Q
open Go.RowKit Go.Proofs.YtjknaokhcbjbhaaDoorW.PrintWords Go.Proofs.YtjknaokhcbjbhaaDoorW.PrintLast Go.Proofs.YtjknaokhcbjbhaaDoorW.PrintMore
attribute [local go_sem] max2_int min2_int max_two min_two max_three min_three max_four min_four   -- for this text's walks alone
set_option linter.unusedVariables false
set_option linter.unusedSimpArgs false

/-! ### burst_Most: function 41 -/
def burst_Most.f (k : Nat) (a0 : Int) (a1 : Int) (a2 : Int) : Option (Int) := if a0 = 0 then (some 0) else ((tick_Ceil.f k (wrap64 ((wrap64 (a0 + a1)) - 1)) a2).bind fun bt122 => (some bt122.1))
theorem burst_Most.mono : ∀ a0 a1 a2 k, LeO (burst_Most.f k a0 a1 a2) (burst_Most.f (k + 1) a0 a1 a2) := by
 intro a0 a1 a2 k
 unfold burst_Most.f
 repeat' first
   | (with_reducible exact tick_Ceil.mono _ _ _)
   | (with_reducible exact LeO.refl _)
   | (with_reducible exact LeO.none _)
   | (with_reducible refine LeO.ite ?_ ?_)
   | (with_reducible refine LeO.bind ?_ (fun _ => ?_))
   | exact tick_Ceil.mono _ _ _
   | exact LeO.none _
   | refine LeO.ite ?_ ?_
   | refine LeO.bind ?_ (fun _ => ?_)
set_option maxHeartbeats 8000000 in
set_option maxRecDepth 100000 in
theorem burst_Most.calls (k : Nat) (a0 : Int) (a1 : Int) (a2 : Int) (r : Int) (w : World) (h : burst_Most.f k a0 a1 a2 = some r) :
  Calls Tryd.prog 41 #[.int .i64 a0, .int .i64 a1, .int .i64 a2] w fun e w' => e = .returned (.int .i64 r) ∧ Drawn0 w w' := by
 have H : (if a0 = 0 then (some 0) else ((tick_Ceil.f k (wrap64 ((wrap64 (a0 + a1)) - 1)) a2).bind fun bt122 => (some bt122.1))) = some r := h
 clear h
 by_cases c4 : a0 = 0
 ·rw [if_pos c4] at H
  have c4b0 : (a0 == 0) = true := beq_iff_eq.mpr c4
  have c4b1 : (a0 != 0) = false := bne_eq_false_iff_eq.mpr c4
  clear c4
  obtain rfl := Option.some.inj H
  go_enter Tryd.func41, Tryd.ntmps41
  go_wp2
  go_ret
  exact ⟨by first | rfl | (simp; done) | (simp [*]; done), by repeat (first | exact Drawn0.refl _ | apply Drawn0.step)⟩
 ·rw [if_neg c4] at H
  have c4b0 : (a0 == 0) = false := beq_eq_false_iff_ne.mpr c4
  have c4b1 : (a0 != 0) = true := bne_iff_ne.mpr c4
  replace H := Option.bind_eq_some_iff.mp H
  obtain ⟨⟨t122, t123⟩, A50, H⟩ := H
  replace H : (some t122) = some r := H
  have A5 := Aside0.mk A50
  clear A50
  obtain rfl := Option.some.inj H
  go_enter Tryd.func41, Tryd.ntmps41
  go_wp2_with (first | ((with_reducible refine gate_callee (f := 43) rfl ?_); refine goesL_ (some 17) rfl rfl Tryd.func43 (by kernel_rfl) rfl #[.int .i64 (wrap64 ((wrap64 (a0 + a1)) - 1)), .int .i64 a2] rfl (by (try simp only [List.map_toArray, List.map_cons, List.map_nil]); first | done | rfl | (simp only [List.length_drop, List.length_take]; rfl)) ?_; (with_reducible refine (tick_Ceil.calls k (wrap64 ((wrap64 (a0 + a1)) - 1)) a2 t122 t123 _ A5.out).mono ?_); rintro e w' ⟨rfl, ⟨nd, rfl⟩⟩; refine ⟨_, rfl, ?_⟩))
  go_ret
  exact ⟨by first | rfl | (simp; done) | (simp [*]; done), by repeat (first | exact Drawn0.refl _ | apply Drawn0.step)⟩

end Go.Proofs.YtjknaokhcbjbhaaDoor.Q

-- What the printed functions of chapters 13 to 19 answer of right tasks (no program in sight).
namespace Go.Proofs.YtjknaokhcbjbhaaDoor.Q
open Go.RowKit Go.Proofs.YtjknaokhcbjbhaaDoorW.PrintWords Go.Proofs.YtjknaokhcbjbhaaDoorW.PrintLast Go.Proofs.YtjknaokhcbjbhaaDoorW.PrintMore
attribute [local go_sem] max2_int min2_int max_two min_two max_three min_three max_four min_four   -- for this text's walks alone
set_option linter.unusedVariables false
set_option linter.unusedSimpArgs false

theorem time_eval {a : Int} (h0 : 0 ≤ a) (h1 : a ≤ 4611686018427387904) : tick_time.f a = some true := by
 unfold tick_time.f
 rw [if_pos h0, decide_eq_true h1]
theorem ceil_eval {a b : Int} (ha : 0 ≤ a) (ha2 : a ≤ 1000000000000000000) (hb : 0 < b) (hb2 : b ≤ 1000000000000000000) (k : Nat) : tick_Ceil.f (k + 1) a b = some (ceilF a b, true) := by
 unfold tick_Ceil.f
 rw [time_eval ha (by omega), time_eval (by omega : 0 ≤ b) (by omega)]
 simp only [Option.bind_some, if_true]
 have hbz : (b == 0) = false := beq_eq_false_iff_ne.2 (by omega)
 rw [hbz, tick_Ceil.j0, if_neg Bool.false_ne_true, if_neg (by omega), Int.tdiv_eq_ediv_of_nonneg ha]
 have h1 := Int.emod_add_mul_ediv a b
 have h2 := Int.emod_nonneg a (show b ≠ 0 by omega)
 have h3 := Int.ediv_nonneg ha (show 0 ≤ b by omega)
 have h4 : a / b ≤ a := Int.ediv_le_self _ ha
 rw [Int.mul_comm] at h1
 have hg := ceil_go hb ha
 obtain ⟨q, hq⟩ : ∃ q, a / b = q := ⟨_, rfl⟩
 rw [hq] at h1 h3 h4 hg ⊢
 rw [w64_ok (x := q) (by omega) (by omega), w64_ok (x := q * b) (by have := Int.mul_nonneg h3 (show 0 ≤ b by omega); omega) (by omega), w64_ok (x := q + 1) (by omega) (by omega), ← hg]
 split <;> rfl
theorem whole_eval {t : TK} (h : Dem t) (k : Nat) : demand_Whole.f (k + 1) t.f0 t.f1 t.f2 t.f3 t.f4 t.f5 t.f6 t.f7 t.f8 t.f9 t.f10 = some (wholeF t) := by
 unfold demand_Whole.f
 by_cases hm : t.f9 = 1
 ·have hp := h.parts hm
  have hw := h.whole
  have e : wholeF t = t.f3 + ceilF t.f3 t.f5 * t.f6 := by unfold wholeF ceilF; rw [if_pos hm]
  obtain ⟨T1, T2, D1, D2, C1, C2, X1, X2, M⟩ := h
  have hs : 0 < t.f5 := by rcases M with ⟨h, _⟩ | ⟨h, _⟩ <;> omega
  have hs2 : t.f5 ≤ 1048576 := by rcases M with ⟨h, _⟩ | ⟨h, _⟩ <;> omega
  rw [if_pos hm, ceil_eval (by omega) (by omega) hs (by omega)]
  simp only [Option.bind_some]
  rw [w64_ok (x := ceilF t.f3 t.f5 * t.f6) (by omega) (by omega), w64_ok (by omega) (by omega), e]
 ·obtain ⟨T1, T2, D1, D2, C1, C2, X1, X2, M⟩ := h
  rw [if_neg hm, w64_ok (by omega) (by omega)]
  unfold wholeF
  rw [if_neg hm]
theorem most_eval {w b g : Int} (hw : 0 ≤ w) (hw2 : w ≤ 1048576) (hb : 1 ≤ b) (hb2 : b ≤ 1000) (hg : 1 ≤ g) (hg2 : g ≤ 1049576) (k : Nat) : burst_Most.f (k + 1) w b g = some (mostF w b g) := by
 unfold burst_Most.f mostF
 by_cases h : w = 0
 ·rw [if_pos h, if_pos h]
 ·rw [if_neg h, if_neg h, w64_ok (x := w + b) (by omega) (by omega), w64_ok (by omega) (by omega), ceil_eval (by omega) (by omega) (by omega) (by omega)]
  rfl
def sumL : List Int → Int
 | [] => 0
 | x :: r => x + sumL r
theorem sumL_app (a b : List Int) : sumL (a ++ b) = sumL a + sumL b := by
 induction a with
 | nil => simp [sumL]
 | cons x a ih => rw [List.cons_append, sumL, sumL, ih]; omega
theorem sumL_pos : ∀ l : List Int, (∀ x ∈ l, 0 ≤ x) → 0 ≤ sumL l
 | [], _ => Int.le_refl _
 | x :: r, h => by
  have h1 := h x List.mem_cons_self
  have h2 := sumL_pos r (fun y hy => h y (List.mem_cons_of_mem _ hy))
  rw [sumL]; omega
theorem sum_loop (l : List Int) (hp : ∀ x ∈ l, 0 ≤ x) (hl : l.length ≤ 1000000) : ∀ (n i k : Nat) (acc : Int), i + n = l.length → n < k → 0 ≤ acc → acc + sumL (l.drop i) ≤ 1000000000000000000 →
  tick_Sum.l0 k acc l (l.length : Int) (i : Int) = some (acc + sumL (l.drop i), true)
 | 0, i, k, acc, h, hk, _, _ => by
  obtain ⟨k, rfl⟩ : ∃ j, k = j + 1 := ⟨k - 1, by omega⟩
  rw [List.drop_of_length_le (by omega), sumL, tick_Sum.l0, if_neg (by omega), Int.add_zero]
 | n + 1, i, k, acc, h, hk, h0, h1 => by
  obtain ⟨k, rfl⟩ : ∃ j, k = j + 1 := ⟨k - 1, by omega⟩
  have hi : i < l.length := by omega
  have gx : rd l (i : Int) = l[i] := by simp [rd, List.getD_eq_getElem?_getD, List.getElem?_eq_getElem hi]
  have hx := hp l[i] (List.getElem_mem hi)
  rw [List.drop_eq_getElem_cons hi, sumL] at h1 ⊢
  have hr := sumL_pos (l.drop (i + 1)) (fun y hy => hp y (List.mem_of_mem_drop hy))
  have hA : tick_Add.f acc l[i] = some (acc + l[i], true) := by
   unfold tick_Add.f
   rw [time_eval h0 (by omega), time_eval hx (by omega)]
   simp only [Option.bind_some, if_true]
   rw [w64_ok (x := 4611686018427387904 - l[i]) (by omega) (by omega), if_neg (by omega), w64_ok (by omega) (by omega)]
  rw [tick_Sum.l0, if_pos (by omega), if_pos (by omega), if_pos (by omega), gx, hA]
  simp only [Option.bind_some, if_true]
  rw [show wrap64 ((i : Int) + 1) = ((i + 1 : Nat) : Int) by rw [w64_ok (by omega) (by omega)]; omega, sum_loop l hp hl n (i + 1) k (acc + l[i]) (by omega) (by omega) (by omega) (by omega)]
  rw [Int.add_assoc]
theorem sum_eval (l : List Int) (hp : ∀ x ∈ l, 0 ≤ x) (hl : l.length ≤ 1000000) (h : sumL l ≤ 1000000000000000000) (k : Nat) (hk : l.length < k) : tick_Sum.f k l = some (sumL l, true) := by
 have h2 := sum_loop l hp hl l.length 0 k 0 (by omega) hk (Int.le_refl _) (by rw [List.drop_zero]; omega)
 rw [List.drop_zero, Int.zero_add] at h2
 exact h2
end Go.Proofs.YtjknaokhcbjbhaaDoor.Q

-- fix.Next's closure: one more part of the sum (walked by hand).
namespace Go.Proofs.YtjknaokhcbjbhaaDoor.Q
open Go.RowKit Go.Proofs.YtjknaokhcbjbhaaDoorW.PrintWords Go.Proofs.YtjknaokhcbjbhaaDoorW.PrintLast Go.Proofs.YtjknaokhcbjbhaaDoorW.PrintMore
attribute [local go_sem] max2_int min2_int max_two min_two max_three min_three max_four min_four   -- for this text's walks alone
set_option linter.unusedVariables false
set_option linter.unusedSimpArgs false

theorem fix_infoI : (Tryd.prog.info? 3).map (fun i => (i.zero, i.size, i.bytes)) = some (some (.int .i64 0), 1, 8) := by kernel_rfl
set_option maxHeartbeats 4000000 in
set_option maxRecDepth 100000 in
theorem mul_ask {a b : Int} (ha : 0 ≤ a) (ha2 : a ≤ 1000000000000000000) (hb : 0 ≤ b) (hb2 : b ≤ 1000000000000000000) (h : a * b ≤ 1000000000000000000) (W : World) :
  Calls Tryd.prog 40 #[.int .i64 a, .int .i64 b] W fun e w' => e = .returned (.tuple #[.int .i64 (a * b), .bool true]) ∧ Drawn0 W w' := by
 have h0 := Int.mul_nonneg ha hb
 have T1 := Aside0.mk (time_eval ha (by omega))
 have T2 := Aside0.mk (time_eval hb (by omega))
 have hw : IntKind.i64.wrap (a * b) = a * b := (i64_w _).trans (w64_ok (by omega) (by omega))
 have HD := Aside0.mk (Drawn0.refl W)
 by_cases hz : 0 < b
 ·have c1 : decide (0 < b) = true := decide_eq_true hz
  have hb0 : b ≠ 0 := by omega
  obtain ⟨q, hq⟩ : ∃ q, Int.tdiv 4611686018427387904 b = q := ⟨_, rfl⟩
  have hq2 : a ≤ q := by
   rw [← hq, Int.tdiv_eq_ediv_of_nonneg (by decide)]
   exact (Int.le_ediv_iff_mul_le hz).2 (by omega)
  have hq3 : q ≤ 4611686018427387904 := by
   rw [← hq, Int.tdiv_eq_ediv_of_nonneg (by decide)]
   exact Int.ediv_le_self _ (by decide)
  have hwq : IntKind.i64.wrap (Int.tdiv 4611686018427387904 b) = q := by rw [hq]; exact (i64_w _).trans (w64_ok (by omega) (by omega))
  have c2 : decide (q < a) = false := decide_eq_false (by omega)
  clear ha ha2 hb hb2 h h0 hz hq hq2 hq3
  go_enter Tryd.func40, Tryd.ntmps40
  go_wp2_with fail
  refine (tick_time.calls a true _ T1.out).mono ?_
  rintro e w1 ⟨rfl, hd1⟩
  have HD1 := Aside0.mk hd1
  clear hd1
  go_wp2_with fail
  refine (tick_time.calls b true _ T2.out).mono ?_
  rintro e w2 ⟨rfl, hd2⟩
  have HD2 := Aside0.mk hd2
  clear hd2
  go_wp2_with fail
  go_ret2
  obtain ⟨n1, rfl⟩ := HD1.out
  obtain ⟨n2, rfl⟩ := HD2.out
  exact ⟨rfl, ⟨⟨n1 + n2, by first | rfl | simp [World.drewN_drewN]⟩⟩⟩
 ·have c1 : decide (0 < b) = false := decide_eq_false hz
  clear ha ha2 hb hb2 h h0 hz
  go_enter Tryd.func40, Tryd.ntmps40
  go_wp2_with fail
  refine (tick_time.calls a true _ T1.out).mono ?_
  rintro e w1 ⟨rfl, hd1⟩
  have HD1 := Aside0.mk hd1
  clear hd1
  go_wp2_with fail
  refine (tick_time.calls b true _ T2.out).mono ?_
  rintro e w2 ⟨rfl, hd2⟩
  have HD2 := Aside0.mk hd2
  clear hd2
  go_wp2_with fail
  go_ret2
  obtain ⟨n1, rfl⟩ := HD1.out
  obtain ⟨n2, rfl⟩ := HD2.out
  exact ⟨rfl, ⟨⟨n1 + n2, by first | rfl | simp [World.drewN_drewN]⟩⟩⟩
end Go.Proofs.YtjknaokhcbjbhaaDoor.Q

-- fix.Next's closure adds one more part to the sum (walked by hand).
namespace Go.Proofs.YtjknaokhcbjbhaaDoor.Q
open Go.RowKit Go.Proofs.YtjknaokhcbjbhaaDoorW.PrintWords Go.Proofs.YtjknaokhcbjbhaaDoorW.PrintLast Go.Proofs.YtjknaokhcbjbhaaDoorW.PrintMore
attribute [local go_sem] max2_int min2_int max_two min_two max_three min_three max_four min_four   -- for this text's walks alone
set_option linter.unusedVariables false
set_option linter.unusedSimpArgs false

set_option maxHeartbeats 4000000 in
set_option maxRecDepth 100000 in
theorem add_ask (gp : Nat) (v : Value) (ps : List Int) (n each : Int) (w0 W : World) (hG : W.heap[gp]? = some (.cells #[v] 27 (0, 0))) (hR : Kd.R (Kd.int .i64) 3 W w0.heap.size (fun _ => True) v ps) (hB : Below w0.heap.size w0 W) (hgp : w0.heap.size ≤ gp)
  (h0 : 0 ≤ n) (h1 : n ≤ 1000000000000000000) (h2 : 0 ≤ each) (h3 : each ≤ 1000000000000000000) (h4 : n * each ≤ 1000000000000000000) (hl : ps.length ≤ 1000) :
  Calls Tryd.prog 39 #[.int .i64 n, .int .i64 each, .pointer (some ⟨gp, 0, none⟩)] W fun e W' => e = .returned (.bool true) ∧ Below w0.heap.size w0 W' ∧ (∃ v', W'.heap[gp]? = some (.cells #[v'] 27 (0, 0)) ∧ Kd.R (Kd.int .i64) 3 W' w0.heap.size (fun _ => True) v' (ps ++ [n * each])) ∧
   (∀ (g : Nat) (t : TypeId) (cs : Array Value), W.heap[g]? = some (.cells cs t (0, 0)) → t ≠ 3 → g ≠ gp → W'.heap[g]? = some (.cells cs t (0, 0))) := by
 have HG := Aside0.mk hG
 have HR := Aside0.mk hR
 have HB := Aside0.mk hB
 have HM := Aside0.mk (mul_ask h0 h1 h2 h3 h4)
 clear hG hR hB h0 h1 h2 h3 h4
 go_enter Tryd.func39, Tryd.ntmps39
 go_wp2_with fail
 refine (HM.out _).mono ?_
 rintro e w1 ⟨rfl, hb⟩
 have HW1 := Aside0.mk hb.below
 have HG1 := Aside0.mk (blk_below HG.out hb.below)
 have HR1 := Aside0.mk (Kd.R_below HR.out hb.below)
 have HB1 := Aside0.mk (below_step HB.out hb.below)
 have y0 : w1.cell? ⟨gp, 0, none⟩ = some v := blk_cell HG1.out 0
 obtain ⟨m, hm⟩ : ∃ m, n * each = m := ⟨_, rfl⟩
 have HM2 := Aside0.mk hm
 rw [hm]
 clear hb hm HM
 go_wp2_with (first | ((with_reducible refine gate_builtin (b := .append) (xs := #[.tmp 14, .tmp 16]) rfl ?_); at_builtin; refine Kd.R_append (Kd.int .i64) (w0 := w0) w0.heap.size rfl (.tmp 14) (.tmp 16) 27 3 (.int .i64 0) 8 rfl Tryd.underlying27 fix_infoI rfl (by decide) (by omega) v ps m [.int .i64 m] (fun _ => True) (fun _ => False) rfl rfl ?aP (fun _ hk => hk.elim) ?aF ?aO ?aB ?aS ?aL ?_))
 case aP => exact rfl
 case aF => exact (fun _ _ => trivial)
 case aO => exact HR1.out
 case aB => exact HB1.out
 case aS => exact HB1.out.size
 case aL => omega
 intro v2 w2 hR2 hb2 hg2 hat2
 have HG2 := Aside0.mk (blk_grown HG1.out hg2 (Kd.R_ne HR1.out HG1.out (by decide)))
 have HK2 : Aside0 (∀ (g : Nat) (t : TypeId) (cs : Array Value), w1.heap[g]? = some (.cells cs t (0, 0)) → t ≠ 3 → w2.heap[g]? = some (.cells cs t (0, 0))) := ⟨fun g t cs hg ht => blk_grown hg hg2 (Kd.R_ne HR1.out hg (fun e => ht e.symm))⟩
 obtain ⟨A2, c2, rfl, -, -⟩ := Kd.R_reads hR2
 rw [show (ps ++ [m]).length = ps.length + 1 by simp] at hR2 ⊢
 have HR2 := Aside0.mk hR2
 have HB2 := Aside0.mk hb2
 have z0 : w2.cell? ⟨gp, 0, none⟩ = some v := blk_cell HG2.out 0
 have z1 := blk_frozen HG2.out 0
 clear hR2 hb2 hg2 hat2
 go_wp2_with fail
 go_ret
 rw [HM2.out]
 refine ⟨rfl, HB2.out.setCell hgp _, ⟨_, blk_put HG2.out 0 _ rfl, Kd.R_set HR2.out HG2.out (by decide) 0 _⟩, fun g t cs hg ht hne => ?_⟩
 exact (Below.heap_setCell w2 ⟨gp, 0, none⟩ _ g hne).trans (HK2.out g t cs (blk_below hg HW1.out) ht)
end Go.Proofs.YtjknaokhcbjbhaaDoor.Q
