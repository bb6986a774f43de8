-- Written for this claim by the session's own driver (wip/qprint.py) over the kit's printer, out of the translation. Not trusted: Lean checks it.
import Derived.Test.YtddbkcfdfgehkaaDoorM0
import Derived.Test.YtddbkcfdfgehkaaDoorQ10
namespace Go.Proofs.YtddbkcfdfgehkaaDoor.Q
open Go.RowKit Go.Proofs.YtddbkcfdfgehkaaDoorW.PrintWords Go.Proofs.YtddbkcfdfgehkaaDoorW.PrintLast Go.Proofs.YtddbkcfdfgehkaaDoorW.PrintMore
attribute [local go_sem] max2_int min2_int max_two min_two max_three min_three max_four min_four   -- for this text's walks alone
set_option linter.unusedVariables false
set_option linter.unusedSimpArgs false

/-! ### pendulumref06_shape: function 26 -/
mutual
def pendulumref06_shape.l0 : Nat → List (S46) → List Int → Int → Option (Int)
 | 0, _, _, _ => none
 | k + 1, x0, x1, x5 => if x5 < (x0.length : Int) then (pendulumref06_shape.j1 k x0 x1 x5 (decide (x5 < (x1.length : Int)))) else (pendulumref06_shape.j1 k x0 x1 x5 false)
def pendulumref06_shape.j1 : Nat → List (S46) → List Int → Int → Bool → Option (Int)
 | 0, _, _, _, _ => none
 | k + 1, x0, x1, x5, x16 => if x16 = true then (if 0 ≤ x5 then (if x5 < (x0.length : Int) then (if ((rd_T46 x0 x5).f0) = 4 then (if x5 < (x1.length : Int) then (if 3 = (rd x1 x5) then (if x5 = 0 then (if 1 < (x1.length : Int) then (if (rd x1 1) = 2 then (if 0 < (x0.length : Int) then (if ((rd_T46 x0 0).f1).toList = ([98, 117, 114, 115, 116] : List UInt8) then (if (rd x1 1) = 1 then (if ((rd_T46 x0 0).f1).toList = ([116, 97, 115, 107] : List UInt8) then (if x5 = 5 then (if 5 < (x0.length : Int) then ((pendulumref06_Mode.f ((rd_T46 x0 5).f1)).bind fun t170 => (if t170 = 0 then (some x5) else (pendulumref06_shape.l0 k x0 x1 (wrap64 (x5 + 1))))) else (none)) else (pendulumref06_shape.l0 k x0 x1 (wrap64 (x5 + 1)))) else (some x5)) else (if x5 = 5 then (if 5 < (x0.length : Int) then ((pendulumref06_Mode.f ((rd_T46 x0 5).f1)).bind fun t172 => (if t172 = 0 then (some x5) else (pendulumref06_shape.l0 k x0 x1 (wrap64 (x5 + 1))))) else (none)) else (pendulumref06_shape.l0 k x0 x1 (wrap64 (x5 + 1))))) else (some x5)) else (none)) else (if (rd x1 1) = 1 then (if 0 < (x0.length : Int) then (if ((rd_T46 x0 0).f1).toList = ([116, 97, 115, 107] : List UInt8) then (if x5 = 5 then (if 5 < (x0.length : Int) then ((pendulumref06_Mode.f ((rd_T46 x0 5).f1)).bind fun t176 => (if t176 = 0 then (some x5) else (pendulumref06_shape.l0 k x0 x1 (wrap64 (x5 + 1))))) else (none)) else (pendulumref06_shape.l0 k x0 x1 (wrap64 (x5 + 1)))) else (some x5)) else (none)) else (if x5 = 5 then (if 5 < (x0.length : Int) then ((pendulumref06_Mode.f ((rd_T46 x0 5).f1)).bind fun t178 => (if t178 = 0 then (some x5) else (pendulumref06_shape.l0 k x0 x1 (wrap64 (x5 + 1))))) else (none)) else (pendulumref06_shape.l0 k x0 x1 (wrap64 (x5 + 1)))))) else (none)) else (if x5 = 5 then (if 5 < (x0.length : Int) then ((pendulumref06_Mode.f ((rd_T46 x0 5).f1)).bind fun t180 => (if t180 = 0 then (some x5) else (pendulumref06_shape.l0 k x0 x1 (wrap64 (x5 + 1))))) else (none)) else (pendulumref06_shape.l0 k x0 x1 (wrap64 (x5 + 1))))) else (some x5)) else (none)) else (if x5 < (x1.length : Int) then (if ((rd_T46 x0 x5).f0) = (rd x1 x5) then (if x5 = 0 then (if 1 < (x1.length : Int) then (if (rd x1 1) = 2 then (if 0 < (x0.length : Int) then (if ((rd_T46 x0 0).f1).toList = ([98, 117, 114, 115, 116] : List UInt8) then (if (rd x1 1) = 1 then (if ((rd_T46 x0 0).f1).toList = ([116, 97, 115, 107] : List UInt8) then (if x5 = 5 then (if 5 < (x0.length : Int) then ((pendulumref06_Mode.f ((rd_T46 x0 5).f1)).bind fun t187 => (if t187 = 0 then (some x5) else (pendulumref06_shape.l0 k x0 x1 (wrap64 (x5 + 1))))) else (none)) else (pendulumref06_shape.l0 k x0 x1 (wrap64 (x5 + 1)))) else (some x5)) else (if x5 = 5 then (if 5 < (x0.length : Int) then ((pendulumref06_Mode.f ((rd_T46 x0 5).f1)).bind fun t189 => (if t189 = 0 then (some x5) else (pendulumref06_shape.l0 k x0 x1 (wrap64 (x5 + 1))))) else (none)) else (pendulumref06_shape.l0 k x0 x1 (wrap64 (x5 + 1))))) else (some x5)) else (none)) else (if (rd x1 1) = 1 then (if 0 < (x0.length : Int) then (if ((rd_T46 x0 0).f1).toList = ([116, 97, 115, 107] : List UInt8) then (if x5 = 5 then (if 5 < (x0.length : Int) then ((pendulumref06_Mode.f ((rd_T46 x0 5).f1)).bind fun t193 => (if t193 = 0 then (some x5) else (pendulumref06_shape.l0 k x0 x1 (wrap64 (x5 + 1))))) else (none)) else (pendulumref06_shape.l0 k x0 x1 (wrap64 (x5 + 1)))) else (some x5)) else (none)) else (if x5 = 5 then (if 5 < (x0.length : Int) then ((pendulumref06_Mode.f ((rd_T46 x0 5).f1)).bind fun t195 => (if t195 = 0 then (some x5) else (pendulumref06_shape.l0 k x0 x1 (wrap64 (x5 + 1))))) else (none)) else (pendulumref06_shape.l0 k x0 x1 (wrap64 (x5 + 1)))))) else (none)) else (if x5 = 5 then (if 5 < (x0.length : Int) then ((pendulumref06_Mode.f ((rd_T46 x0 5).f1)).bind fun t197 => (if t197 = 0 then (some x5) else (pendulumref06_shape.l0 k x0 x1 (wrap64 (x5 + 1))))) else (none)) else (pendulumref06_shape.l0 k x0 x1 (wrap64 (x5 + 1))))) else (some x5)) else (none))) else (none)) else (none)) else (some (-1))
end
def pendulumref06_shape.f (k : Nat) (l0 : List (S46)) (l1 : List Int) : Option (Int) := pendulumref06_shape.l0 k l0 l1 0
theorem pendulumref06_shape.mono_l : ∀ k, (∀ y0 y1 y2, LeO (pendulumref06_shape.l0 k y0 y1 y2) (pendulumref06_shape.l0 (k + 1) y0 y1 y2)) ∧ (∀ y0 y1 y2 y3, LeO (pendulumref06_shape.j1 k y0 y1 y2 y3) (pendulumref06_shape.j1 (k + 1) y0 y1 y2 y3))
 | 0 => ⟨fun _ _ _ r h => by simp [pendulumref06_shape.l0] at h, fun _ _ _ _ r h => by simp [pendulumref06_shape.j1] at h⟩
 | k + 1 => by
  obtain ⟨ih0, ih1⟩ := pendulumref06_shape.mono_l k
  refine ⟨?_, ?_⟩
  ·intro y0 y1 y2
   unfold pendulumref06_shape.l0
   repeat' first
   | (with_reducible exact ih0 _ _ _)
   | (with_reducible exact ih1 _ _ _ _)
   | (with_reducible exact LeO.refl _)
   | (with_reducible exact LeO.none _)
   | (with_reducible refine LeO.ite ?_ ?_)
   | (with_reducible refine LeO.bind ?_ (fun _ => ?_))
   | exact ih0 _ _ _
   | exact ih1 _ _ _ _
   | exact LeO.none _
   | refine LeO.ite ?_ ?_
   | refine LeO.bind ?_ (fun _ => ?_)
  ·intro y0 y1 y2 y3
   unfold pendulumref06_shape.j1
   repeat' first
   | (with_reducible exact ih0 _ _ _)
   | (with_reducible exact ih1 _ _ _ _)
   | (with_reducible exact LeO.refl _)
   | (with_reducible exact LeO.none _)
   | (with_reducible refine LeO.ite ?_ ?_)
   | (with_reducible refine LeO.bind ?_ (fun _ => ?_))
   | exact ih0 _ _ _
   | exact ih1 _ _ _ _
   | exact LeO.none _
   | refine LeO.ite ?_ ?_
   | refine LeO.bind ?_ (fun _ => ?_)
theorem pendulumref06_shape.mono : ∀ a0 a1 k, LeO (pendulumref06_shape.f k a0 a1) (pendulumref06_shape.f (k + 1) a0 a1) := by
 intro a0 a1 k
 obtain ⟨ih0, ih1⟩ := pendulumref06_shape.mono_l k
 unfold pendulumref06_shape.f
 repeat' first
   | (with_reducible exact ih0 _ _ _)
   | (with_reducible exact ih1 _ _ _ _)
   | (with_reducible exact LeO.refl _)
   | (with_reducible exact LeO.none _)
   | (with_reducible refine LeO.ite ?_ ?_)
   | (with_reducible refine LeO.bind ?_ (fun _ => ?_))
   | exact ih0 _ _ _
   | exact ih1 _ _ _ _
   | exact LeO.none _
   | refine LeO.ite ?_ ?_
   | refine LeO.bind ?_ (fun _ => ?_)
set_option maxHeartbeats 8000000 in
set_option maxRecDepth 100000 in
theorem pendulumref06_shape.calls (k : Nat) (A0 : Option Addr) (c0 : Nat) (l0 : List (S46)) (A1 : Option Addr) (c1 : Nat) (l1 : List Int) (r : Int) (w : World) (hr0 : Kd.C k46 w A0 l0.length l0) (hc0 : l0.length ≤ c0) (hr1 : Kd.C (Kd.int .i64) w A1 l1.length l1) (hc1 : l1.length ≤ c1) (h : pendulumref06_shape.f k l0 l1 = some r) :
  Calls Tryd.prog 26 #[.slice A0 l0.length c0, .slice A1 l1.length c1] w fun e w' => e = .returned (.int .i64 r) ∧ Drawn0 w w' := by
 have HR0 := Aside0.mk hr0
 have HC0 := Aside0.mk hc0
 clear hr0 hc0
 have HR1 := Aside0.mk hr1
 have HC1 := Aside0.mk hc1
 clear hr1 hc1
 have H : (pendulumref06_shape.l0 k l0 l1 0) = some r := h
 clear h
 have H' := Aside0.mk H
 clear H
 go_enter Tryd.func26, Tryd.ntmps26
 go_wp2
 go_loopg [5] k (fun kq v5 w' => ∃ (x5_1 : Int), v5 = .int .i64 x5_1 ∧ Aside0 (pendulumref06_shape.l0 kq l0 l1 x5_1 = some r) ∧ Aside0 (kq ≤ k) ∧ Drawn0 w w')
 case atStart => exact ⟨(0), (by first | rfl | (simp; done) | (simp [*]; done)), H', ⟨Nat.le_refl _⟩, by repeat (first | exact Drawn0.refl _ | apply Drawn0.step)⟩
 case round =>
  clear H'
  try clear c1
  try clear c2
  try clear p2
  obtain ⟨x5_1, rfl, HA, HK1, ⟨m1, rfl⟩⟩ := hrel
  cases gk with
  | zero => exact absurd HA.out (by simp [pendulumref06_shape.l0])
  | succ k1 =>
   have H := HA.out
   clear HA
   simp only [pendulumref06_shape.l0] at H
   have HC3 := Aside0.mk H
   clear H
   go_upto_region 2 with (fail)
   go_cut [16] (fun v16 wc => ∃ (kq : Nat) (x16_2 : Bool), v16 = .bool x16_2 ∧ Aside0 (pendulumref06_shape.j1 kq l0 l1 x5_1 x16_2 = some r) ∧ Aside0 (kq ≤ k1) ∧ Drawn0 w wc)
   case first =>
    have H := HC3.out
    clear HC3
    by_cases c4 : x5_1 < (l0.length : Int)
    ·rw [if_pos c4] at H
     have c4b0 : decide (x5_1 < (l0.length : Int)) = true := decide_eq_true c4
     clear c4
     (first | rw [c4b0] | (simp only [i64_w, i32_w]; rw [c4b0]) | skip)
     have H' := Aside0.mk H
     clear H
     go_wp2
     go_meet
     case rel => exact ⟨_, (decide (x5_1 < (l1.length : Int))), (by first | rfl | (simp; done) | (simp [*]; done)), H', ⟨by have := HK1.out; first | omega | exact Nat.le_refl _⟩, by repeat (first | exact Drawn0.refl _ | apply Drawn0.step)⟩
    ·rw [if_neg c4] at H
     have c4b0 : decide (x5_1 < (l0.length : Int)) = false := decide_eq_false c4
     clear c4
     (first | rw [c4b0] | (simp only [i64_w, i32_w]; rw [c4b0]) | skip)
     have H' := Aside0.mk H
     clear H
     go_wp2
     go_meet
     case rel => exact ⟨_, (false), (by first | rfl | (simp; done) | (simp [*]; done)), H', ⟨by have := HK1.out; first | omega | exact Nat.le_refl _⟩, by repeat (first | exact Drawn0.refl _ | apply Drawn0.step)⟩
   case rest =>
    clear HC3
    try clear c1
    try clear c2
    try clear p2
    try clear c4
    try clear c4b0
    try clear p2
    obtain ⟨kq, x16_2, rfl, HA, HJ2, ⟨mc2, rfl⟩⟩ := hcut
    cases kq with
    | zero => exact absurd HA.out (by simp [pendulumref06_shape.j1])
    | succ kj2 =>
     have H := HA.out
     clear HA
     simp only [pendulumref06_shape.j1] at H
     by_cases c5 : x16_2 = true
     ·subst c5
      have H1 : (if 0 ≤ x5_1 then (if x5_1 < (l0.length : Int) then (if ((rd_T46 l0 x5_1).f0) = 4 then (if x5_1 < (l1.length : Int) then (if 3 = (rd l1 x5_1) then (if x5_1 = 0 then (if 1 < (l1.length : Int) then (if (rd l1 1) = 2 then (if 0 < (l0.length : Int) then (if ((rd_T46 l0 0).f1).toList = ([98, 117, 114, 115, 116] : List UInt8) then (if (rd l1 1) = 1 then (if ((rd_T46 l0 0).f1).toList = ([116, 97, 115, 107] : List UInt8) then (if x5_1 = 5 then (if 5 < (l0.length : Int) then ((pendulumref06_Mode.f ((rd_T46 l0 5).f1)).bind fun t170 => (if t170 = 0 then (some x5_1) else (pendulumref06_shape.l0 kj2 l0 l1 (wrap64 (x5_1 + 1))))) else (none)) else (pendulumref06_shape.l0 kj2 l0 l1 (wrap64 (x5_1 + 1)))) else (some x5_1)) else (if x5_1 = 5 then (if 5 < (l0.length : Int) then ((pendulumref06_Mode.f ((rd_T46 l0 5).f1)).bind fun t172 => (if t172 = 0 then (some x5_1) else (pendulumref06_shape.l0 kj2 l0 l1 (wrap64 (x5_1 + 1))))) else (none)) else (pendulumref06_shape.l0 kj2 l0 l1 (wrap64 (x5_1 + 1))))) else (some x5_1)) else (none)) else (if (rd l1 1) = 1 then (if 0 < (l0.length : Int) then (if ((rd_T46 l0 0).f1).toList = ([116, 97, 115, 107] : List UInt8) then (if x5_1 = 5 then (if 5 < (l0.length : Int) then ((pendulumref06_Mode.f ((rd_T46 l0 5).f1)).bind fun t176 => (if t176 = 0 then (some x5_1) else (pendulumref06_shape.l0 kj2 l0 l1 (wrap64 (x5_1 + 1))))) else (none)) else (pendulumref06_shape.l0 kj2 l0 l1 (wrap64 (x5_1 + 1)))) else (some x5_1)) else (none)) else (if x5_1 = 5 then (if 5 < (l0.length : Int) then ((pendulumref06_Mode.f ((rd_T46 l0 5).f1)).bind fun t178 => (if t178 = 0 then (some x5_1) else (pendulumref06_shape.l0 kj2 l0 l1 (wrap64 (x5_1 + 1))))) else (none)) else (pendulumref06_shape.l0 kj2 l0 l1 (wrap64 (x5_1 + 1)))))) else (none)) else (if x5_1 = 5 then (if 5 < (l0.length : Int) then ((pendulumref06_Mode.f ((rd_T46 l0 5).f1)).bind fun t180 => (if t180 = 0 then (some x5_1) else (pendulumref06_shape.l0 kj2 l0 l1 (wrap64 (x5_1 + 1))))) else (none)) else (pendulumref06_shape.l0 kj2 l0 l1 (wrap64 (x5_1 + 1))))) else (some x5_1)) else (none)) else (if x5_1 < (l1.length : Int) then (if ((rd_T46 l0 x5_1).f0) = (rd l1 x5_1) then (if x5_1 = 0 then (if 1 < (l1.length : Int) then (if (rd l1 1) = 2 then (if 0 < (l0.length : Int) then (if ((rd_T46 l0 0).f1).toList = ([98, 117, 114, 115, 116] : List UInt8) then (if (rd l1 1) = 1 then (if ((rd_T46 l0 0).f1).toList = ([116, 97, 115, 107] : List UInt8) then (if x5_1 = 5 then (if 5 < (l0.length : Int) then ((pendulumref06_Mode.f ((rd_T46 l0 5).f1)).bind fun t187 => (if t187 = 0 then (some x5_1) else (pendulumref06_shape.l0 kj2 l0 l1 (wrap64 (x5_1 + 1))))) else (none)) else (pendulumref06_shape.l0 kj2 l0 l1 (wrap64 (x5_1 + 1)))) else (some x5_1)) else (if x5_1 = 5 then (if 5 < (l0.length : Int) then ((pendulumref06_Mode.f ((rd_T46 l0 5).f1)).bind fun t189 => (if t189 = 0 then (some x5_1) else (pendulumref06_shape.l0 kj2 l0 l1 (wrap64 (x5_1 + 1))))) else (none)) else (pendulumref06_shape.l0 kj2 l0 l1 (wrap64 (x5_1 + 1))))) else (some x5_1)) else (none)) else (if (rd l1 1) = 1 then (if 0 < (l0.length : Int) then (if ((rd_T46 l0 0).f1).toList = ([116, 97, 115, 107] : List UInt8) then (if x5_1 = 5 then (if 5 < (l0.length : Int) then ((pendulumref06_Mode.f ((rd_T46 l0 5).f1)).bind fun t193 => (if t193 = 0 then (some x5_1) else (pendulumref06_shape.l0 kj2 l0 l1 (wrap64 (x5_1 + 1))))) else (none)) else (pendulumref06_shape.l0 kj2 l0 l1 (wrap64 (x5_1 + 1)))) else (some x5_1)) else (none)) else (if x5_1 = 5 then (if 5 < (l0.length : Int) then ((pendulumref06_Mode.f ((rd_T46 l0 5).f1)).bind fun t195 => (if t195 = 0 then (some x5_1) else (pendulumref06_shape.l0 kj2 l0 l1 (wrap64 (x5_1 + 1))))) else (none)) else (pendulumref06_shape.l0 kj2 l0 l1 (wrap64 (x5_1 + 1)))))) else (none)) else (if x5_1 = 5 then (if 5 < (l0.length : Int) then ((pendulumref06_Mode.f ((rd_T46 l0 5).f1)).bind fun t197 => (if t197 = 0 then (some x5_1) else (pendulumref06_shape.l0 kj2 l0 l1 (wrap64 (x5_1 + 1))))) else (none)) else (pendulumref06_shape.l0 kj2 l0 l1 (wrap64 (x5_1 + 1))))) else (some x5_1)) else (none))) else (none)) else (none)) = some r := by rw [if_pos rfl] at H; exact H
      clear H
      have H := H1
      clear H1
      by_cases c6 : 0 ≤ x5_1
      ·rw [if_pos c6] at H
       have c6b0 : decide (0 ≤ x5_1) = true := decide_eq_true c6
       clear c6
       by_cases c7 : x5_1 < (l0.length : Int)
       ·rw [if_pos c7] at H
        have c7b0 : decide (x5_1 < (l0.length : Int)) = true := decide_eq_true c7
        clear c7
        by_cases c8 : ((rd_T46 l0 x5_1).f0) = 4
        ·rw [if_pos c8] at H
         have c8b0 : (((rd_T46 l0 x5_1).f0) == 4) = true := beq_iff_eq.mpr c8
         have c8b1 : (((rd_T46 l0 x5_1).f0) != 4) = false := bne_eq_false_iff_eq.mpr c8
         clear c8
         by_cases c9 : x5_1 < (l1.length : Int)
         ·rw [if_pos c9] at H
          have c9b0 : decide (x5_1 < (l1.length : Int)) = true := decide_eq_true c9
          clear c9
          by_cases c10 : 3 = (rd l1 x5_1)
          ·rw [if_pos c10] at H
           have c10b0 : (3 == (rd l1 x5_1)) = true := beq_iff_eq.mpr c10
           have c10b1 : (3 != (rd l1 x5_1)) = false := bne_eq_false_iff_eq.mpr c10
           clear c10
           by_cases c11 : x5_1 = 0
           ·rw [if_pos c11] at H
            have c11b0 : (x5_1 == 0) = true := beq_iff_eq.mpr c11
            have c11b1 : (x5_1 != 0) = false := bne_eq_false_iff_eq.mpr c11
            clear c11
            by_cases c12 : 1 < (l1.length : Int)
            ·rw [if_pos c12] at H
             have c12b0 : decide (1 < (l1.length : Int)) = true := decide_eq_true c12
             have c12b1 : decide (1 < l1.length) = true := decide_eq_true (by omega)
             clear c12
             by_cases c13 : (rd l1 1) = 2
             ·rw [if_pos c13] at H
              have c13b0 : ((rd l1 1) == 2) = true := beq_iff_eq.mpr c13
              have c13b1 : ((rd l1 1) != 2) = false := bne_eq_false_iff_eq.mpr c13
              clear c13
              by_cases c14 : 0 < (l0.length : Int)
              ·rw [if_pos c14] at H
               have c14b0 : decide (0 < (l0.length : Int)) = true := decide_eq_true c14
               have c14b1 : decide (0 < l0.length) = true := decide_eq_true (by omega)
               clear c14
               by_cases c15 : ((rd_T46 l0 0).f1).toList = ([98, 117, 114, 115, 116] : List UInt8)
               ·rw [if_pos c15] at H
                have c15b0 : (((rd_T46 l0 0).f1).toList == ([98, 117, 114, 115, 116] : List UInt8)) = true := beq_iff_eq.mpr c15
                have c15b1 : (((rd_T46 l0 0).f1).toList != ([98, 117, 114, 115, 116] : List UInt8)) = false := bne_eq_false_iff_eq.mpr c15
                clear c15
                by_cases c16 : (rd l1 1) = 1
                ·rw [if_pos c16] at H
                 have c16b0 : ((rd l1 1) == 1) = true := beq_iff_eq.mpr c16
                 have c16b1 : ((rd l1 1) != 1) = false := bne_eq_false_iff_eq.mpr c16
                 clear c16
                 by_cases c17 : ((rd_T46 l0 0).f1).toList = ([116, 97, 115, 107] : List UInt8)
                 ·rw [if_pos c17] at H
                  have c17b0 : (((rd_T46 l0 0).f1).toList == ([116, 97, 115, 107] : List UInt8)) = true := beq_iff_eq.mpr c17
                  have c17b1 : (((rd_T46 l0 0).f1).toList != ([116, 97, 115, 107] : List UInt8)) = false := bne_eq_false_iff_eq.mpr c17
                  clear c17
                  by_cases c18 : x5_1 = 5
                  ·rw [if_pos c18] at H
                   have c18b0 : (x5_1 == 5) = true := beq_iff_eq.mpr c18
                   have c18b1 : (x5_1 != 5) = false := bne_eq_false_iff_eq.mpr c18
                   clear c18
                   by_cases c19 : 5 < (l0.length : Int)
                   ·rw [if_pos c19] at H
                    have c19b0 : decide (5 < (l0.length : Int)) = true := decide_eq_true c19
                    have c19b1 : decide (5 < l0.length) = true := decide_eq_true (by omega)
                    clear c19
                    replace H := Option.bind_eq_some_iff.mp H
                    obtain ⟨t170, A200, H⟩ := H
                    replace H : (if t170 = 0 then (some x5_1) else (pendulumref06_shape.l0 kj2 l0 l1 (wrap64 (x5_1 + 1)))) = some r := H
                    have A20 := Aside0.mk A200
                    clear A200
                    by_cases c21 : t170 = 0
                    ·rw [if_pos c21] at H
                     have c21b0 : (t170 == 0) = true := beq_iff_eq.mpr c21
                     have c21b1 : (t170 != 0) = false := bne_eq_false_iff_eq.mpr c21
                     clear c21
                     obtain rfl := Option.some.inj H
                     have p163 : 0 ≤ (x5_1 : Int) := of_decide_eq_true (by first | (with_reducible assumption) | assumption)
                     have q163 : x5_1 < (l0.length : Int) := of_decide_eq_true (by first | (with_reducible assumption) | assumption)
                     obtain ⟨ad163, e163, hx163_0, hx163_1, hx163_2, hx163_3, hx163_4⟩ := at_T46 HR0.out x5_1 p163 q163
                     cases e163
                     replace p163 := eq_true p163
                     replace q163 := eq_true q163
                     have p164 : 0 ≤ (x5_1 : Int) := of_decide_eq_true (by first | (with_reducible assumption) | assumption)
                     have q164 : x5_1 < (l1.length : Int) := of_decide_eq_true (by first | (with_reducible assumption) | assumption)
                     obtain ⟨ad164, e164, hx164_0⟩ := Kd.at_int HR1.out x5_1 p164 q164
                     cases e164
                     replace p164 := eq_true p164
                     replace q164 := eq_true q164
                     have p165 : 0 ≤ (1 : Int) := (by omega)
                     have q165 : 1 < (l1.length : Int) := of_decide_eq_true (by first | (with_reducible assumption) | assumption)
                     obtain ⟨ad165, e165, hx165_0⟩ := Kd.at_int HR1.out 1 p165 q165
                     obtain rfl : ad164 = ad165 := (by injection e165)
                     (try simp only [show (1 : Int).toNat = 1 from rfl, Nat.reduceMul, Nat.reduceEqDiff, Go.Addr.add, ↓reduceIte] at hx165_0)
                     have qi165 : (1 < l1.length) = True := eq_true (by omega)
                     (try rw [show ((1 : Int)).toNat = 1 from rfl] at hx165_0)
                     replace p165 := eq_true p165
                     replace q165 := eq_true q165
                     have p166 : 0 ≤ (0 : Int) := (by omega)
                     have q166 : 0 < (l0.length : Int) := of_decide_eq_true (by first | (with_reducible assumption) | assumption)
                     obtain ⟨ad166, e166, hx166_0, hx166_1, hx166_2, hx166_3, hx166_4⟩ := at_T46 HR0.out 0 p166 q166
                     obtain rfl : ad163 = ad166 := (by injection e166)
                     have qi166 : (0 < l0.length) = True := eq_true (by omega)
                     (try rw [show ((0 : Int)).toNat = 0 from rfl] at hx166_0)
                     (try rw [show 0 * 5 = 0 from rfl] at hx166_0)
                     (try rw [Addr.add_zero'] at hx166_0)
                     (try rw [show ((0 : Int)).toNat = 0 from rfl] at hx166_1)
                     (try rw [show 0 * 5 = 0 from rfl] at hx166_1)
                     (try rw [Addr.add_zero'] at hx166_1)
                     (try rw [show ((0 : Int)).toNat = 0 from rfl] at hx166_2)
                     (try rw [show 0 * 5 = 0 from rfl] at hx166_2)
                     (try rw [Addr.add_zero'] at hx166_2)
                     (try rw [show ((0 : Int)).toNat = 0 from rfl] at hx166_3)
                     (try rw [show 0 * 5 = 0 from rfl] at hx166_3)
                     (try rw [Addr.add_zero'] at hx166_3)
                     (try rw [show ((0 : Int)).toNat = 0 from rfl] at hx166_4)
                     (try rw [show 0 * 5 = 0 from rfl] at hx166_4)
                     (try rw [Addr.add_zero'] at hx166_4)
                     replace p166 := eq_true p166
                     replace q166 := eq_true q166
                     have p167 : 0 ≤ (1 : Int) := (by omega)
                     have q167 : 1 < (l1.length : Int) := of_decide_eq_true (by first | (with_reducible assumption) | assumption)
                     obtain ⟨ad167, e167, hx167_0⟩ := Kd.at_int HR1.out 1 p167 q167
                     obtain rfl : ad164 = ad167 := (by injection e167)
                     (try simp only [show (1 : Int).toNat = 1 from rfl, Nat.reduceMul, Nat.reduceEqDiff, Go.Addr.add, ↓reduceIte] at hx167_0)
                     have qi167 : (1 < l1.length) = True := eq_true (by omega)
                     (try rw [show ((1 : Int)).toNat = 1 from rfl] at hx167_0)
                     replace p167 := eq_true p167
                     replace q167 := eq_true q167
                     have p168 : 0 ≤ (0 : Int) := (by omega)
                     have q168 : 0 < (l0.length : Int) := of_decide_eq_true (by first | (with_reducible assumption) | assumption)
                     obtain ⟨ad168, e168, hx168_0, hx168_1, hx168_2, hx168_3, hx168_4⟩ := at_T46 HR0.out 0 p168 q168
                     obtain rfl : ad163 = ad168 := (by injection e168)
                     have qi168 : (0 < l0.length) = True := eq_true (by omega)
                     (try rw [show ((0 : Int)).toNat = 0 from rfl] at hx168_0)
                     (try rw [show 0 * 5 = 0 from rfl] at hx168_0)
                     (try rw [Addr.add_zero'] at hx168_0)
                     (try rw [show ((0 : Int)).toNat = 0 from rfl] at hx168_1)
                     (try rw [show 0 * 5 = 0 from rfl] at hx168_1)
                     (try rw [Addr.add_zero'] at hx168_1)
                     (try rw [show ((0 : Int)).toNat = 0 from rfl] at hx168_2)
                     (try rw [show 0 * 5 = 0 from rfl] at hx168_2)
                     (try rw [Addr.add_zero'] at hx168_2)
                     (try rw [show ((0 : Int)).toNat = 0 from rfl] at hx168_3)
                     (try rw [show 0 * 5 = 0 from rfl] at hx168_3)
                     (try rw [Addr.add_zero'] at hx168_3)
                     (try rw [show ((0 : Int)).toNat = 0 from rfl] at hx168_4)
                     (try rw [show 0 * 5 = 0 from rfl] at hx168_4)
                     (try rw [Addr.add_zero'] at hx168_4)
                     replace p168 := eq_true p168
                     replace q168 := eq_true q168
                     have p169 : 0 ≤ (5 : Int) := (by omega)
                     have q169 : 5 < (l0.length : Int) := of_decide_eq_true (by first | (with_reducible assumption) | assumption)
                     obtain ⟨ad169, e169, hx169_0, hx169_1, hx169_2, hx169_3, hx169_4⟩ := at_T46 HR0.out 5 p169 q169
                     obtain rfl : ad163 = ad169 := (by injection e169)
                     (try simp only [show (5 : Int).toNat = 5 from rfl, Nat.reduceMul, Nat.reduceEqDiff, Go.Addr.add, ↓reduceIte] at hx169_0)
                     (try simp only [show (5 : Int).toNat = 5 from rfl, Nat.reduceMul, Nat.reduceEqDiff, Go.Addr.add, ↓reduceIte] at hx169_1)
                     (try simp only [show (5 : Int).toNat = 5 from rfl, Nat.reduceMul, Nat.reduceEqDiff, Go.Addr.add, ↓reduceIte] at hx169_2)
                     (try simp only [show (5 : Int).toNat = 5 from rfl, Nat.reduceMul, Nat.reduceEqDiff, Go.Addr.add, ↓reduceIte] at hx169_3)
                     (try simp only [show (5 : Int).toNat = 5 from rfl, Nat.reduceMul, Nat.reduceEqDiff, Go.Addr.add, ↓reduceIte] at hx169_4)
                     have qi169 : (5 < l0.length) = True := eq_true (by omega)
                     (try rw [show ((5 : Int)).toNat = 5 from rfl] at hx169_0)
                     (try rw [show 5 * 5 = 25 from rfl] at hx169_0)
                     (try rw [show ((5 : Int)).toNat = 5 from rfl] at hx169_1)
                     (try rw [show 5 * 5 = 25 from rfl] at hx169_1)
                     (try rw [show ((5 : Int)).toNat = 5 from rfl] at hx169_2)
                     (try rw [show 5 * 5 = 25 from rfl] at hx169_2)
                     (try rw [show ((5 : Int)).toNat = 5 from rfl] at hx169_3)
                     (try rw [show 5 * 5 = 25 from rfl] at hx169_3)
                     (try rw [show ((5 : Int)).toNat = 5 from rfl] at hx169_4)
                     (try rw [show 5 * 5 = 25 from rfl] at hx169_4)
                     replace p169 := eq_true p169
                     replace q169 := eq_true q169
                     go_wp2_with (first | (go_at_call 15; (with_reducible refine (pendulumref06_Mode.calls ((rd_T46 l0 5).f1) t170 _ A20.out).mono ?_); rintro e w' ⟨rfl, ⟨nd, rfl⟩⟩))
                     go_ret
                     exact ⟨by first | rfl | (simp; done) | (simp [*]; done), by repeat (first | exact Drawn0.refl _ | apply Drawn0.step)⟩
                    ·rw [if_neg c21] at H
                     have c21b0 : (t170 == 0) = false := beq_eq_false_iff_ne.mpr c21
                     have c21b1 : (t170 != 0) = true := bne_iff_ne.mpr c21
                     have H' := Aside0.mk H
                     clear H
                     have p163 : 0 ≤ (x5_1 : Int) := of_decide_eq_true (by first | (with_reducible assumption) | assumption)
                     have q163 : x5_1 < (l0.length : Int) := of_decide_eq_true (by first | (with_reducible assumption) | assumption)
                     obtain ⟨ad163, e163, hx163_0, hx163_1, hx163_2, hx163_3, hx163_4⟩ := at_T46 HR0.out x5_1 p163 q163
                     cases e163
                     replace p163 := eq_true p163
                     replace q163 := eq_true q163
                     have p164 : 0 ≤ (x5_1 : Int) := of_decide_eq_true (by first | (with_reducible assumption) | assumption)
                     have q164 : x5_1 < (l1.length : Int) := of_decide_eq_true (by first | (with_reducible assumption) | assumption)
                     obtain ⟨ad164, e164, hx164_0⟩ := Kd.at_int HR1.out x5_1 p164 q164
                     cases e164
                     replace p164 := eq_true p164
                     replace q164 := eq_true q164
                     have p165 : 0 ≤ (1 : Int) := (by omega)
                     have q165 : 1 < (l1.length : Int) := of_decide_eq_true (by first | (with_reducible assumption) | assumption)
                     obtain ⟨ad165, e165, hx165_0⟩ := Kd.at_int HR1.out 1 p165 q165
                     obtain rfl : ad164 = ad165 := (by injection e165)
                     (try simp only [show (1 : Int).toNat = 1 from rfl, Nat.reduceMul, Nat.reduceEqDiff, Go.Addr.add, ↓reduceIte] at hx165_0)
                     have qi165 : (1 < l1.length) = True := eq_true (by omega)
                     (try rw [show ((1 : Int)).toNat = 1 from rfl] at hx165_0)
                     replace p165 := eq_true p165
                     replace q165 := eq_true q165
                     have p166 : 0 ≤ (0 : Int) := (by omega)
                     have q166 : 0 < (l0.length : Int) := of_decide_eq_true (by first | (with_reducible assumption) | assumption)
                     obtain ⟨ad166, e166, hx166_0, hx166_1, hx166_2, hx166_3, hx166_4⟩ := at_T46 HR0.out 0 p166 q166
                     obtain rfl : ad163 = ad166 := (by injection e166)
                     have qi166 : (0 < l0.length) = True := eq_true (by omega)
                     (try rw [show ((0 : Int)).toNat = 0 from rfl] at hx166_0)
                     (try rw [show 0 * 5 = 0 from rfl] at hx166_0)
                     (try rw [Addr.add_zero'] at hx166_0)
                     (try rw [show ((0 : Int)).toNat = 0 from rfl] at hx166_1)
                     (try rw [show 0 * 5 = 0 from rfl] at hx166_1)
                     (try rw [Addr.add_zero'] at hx166_1)
                     (try rw [show ((0 : Int)).toNat = 0 from rfl] at hx166_2)
                     (try rw [show 0 * 5 = 0 from rfl] at hx166_2)
                     (try rw [Addr.add_zero'] at hx166_2)
                     (try rw [show ((0 : Int)).toNat = 0 from rfl] at hx166_3)
                     (try rw [show 0 * 5 = 0 from rfl] at hx166_3)
                     (try rw [Addr.add_zero'] at hx166_3)
                     (try rw [show ((0 : Int)).toNat = 0 from rfl] at hx166_4)
                     (try rw [show 0 * 5 = 0 from rfl] at hx166_4)
                     (try rw [Addr.add_zero'] at hx166_4)
                     replace p166 := eq_true p166
                     replace q166 := eq_true q166
                     have p167 : 0 ≤ (1 : Int) := (by omega)
                     have q167 : 1 < (l1.length : Int) := of_decide_eq_true (by first | (with_reducible assumption) | assumption)
                     obtain ⟨ad167, e167, hx167_0⟩ := Kd.at_int HR1.out 1 p167 q167
                     obtain rfl : ad164 = ad167 := (by injection e167)
                     (try simp only [show (1 : Int).toNat = 1 from rfl, Nat.reduceMul, Nat.reduceEqDiff, Go.Addr.add, ↓reduceIte] at hx167_0)
                     have qi167 : (1 < l1.length) = True := eq_true (by omega)
                     (try rw [show ((1 : Int)).toNat = 1 from rfl] at hx167_0)
                     replace p167 := eq_true p167
                     replace q167 := eq_true q167
                     have p168 : 0 ≤ (0 : Int) := (by omega)
                     have q168 : 0 < (l0.length : Int) := of_decide_eq_true (by first | (with_reducible assumption) | assumption)
                     obtain ⟨ad168, e168, hx168_0, hx168_1, hx168_2, hx168_3, hx168_4⟩ := at_T46 HR0.out 0 p168 q168
                     obtain rfl : ad163 = ad168 := (by injection e168)
                     have qi168 : (0 < l0.length) = True := eq_true (by omega)
                     (try rw [show ((0 : Int)).toNat = 0 from rfl] at hx168_0)
                     (try rw [show 0 * 5 = 0 from rfl] at hx168_0)
                     (try rw [Addr.add_zero'] at hx168_0)
                     (try rw [show ((0 : Int)).toNat = 0 from rfl] at hx168_1)
                     (try rw [show 0 * 5 = 0 from rfl] at hx168_1)
                     (try rw [Addr.add_zero'] at hx168_1)
                     (try rw [show ((0 : Int)).toNat = 0 from rfl] at hx168_2)
                     (try rw [show 0 * 5 = 0 from rfl] at hx168_2)
                     (try rw [Addr.add_zero'] at hx168_2)
                     (try rw [show ((0 : Int)).toNat = 0 from rfl] at hx168_3)
                     (try rw [show 0 * 5 = 0 from rfl] at hx168_3)
                     (try rw [Addr.add_zero'] at hx168_3)
                     (try rw [show ((0 : Int)).toNat = 0 from rfl] at hx168_4)
                     (try rw [show 0 * 5 = 0 from rfl] at hx168_4)
                     (try rw [Addr.add_zero'] at hx168_4)
                     replace p168 := eq_true p168
                     replace q168 := eq_true q168
                     have p169 : 0 ≤ (5 : Int) := (by omega)
                     have q169 : 5 < (l0.length : Int) := of_decide_eq_true (by first | (with_reducible assumption) | assumption)
                     obtain ⟨ad169, e169, hx169_0, hx169_1, hx169_2, hx169_3, hx169_4⟩ := at_T46 HR0.out 5 p169 q169
                     obtain rfl : ad163 = ad169 := (by injection e169)
                     (try simp only [show (5 : Int).toNat = 5 from rfl, Nat.reduceMul, Nat.reduceEqDiff, Go.Addr.add, ↓reduceIte] at hx169_0)
                     (try simp only [show (5 : Int).toNat = 5 from rfl, Nat.reduceMul, Nat.reduceEqDiff, Go.Addr.add, ↓reduceIte] at hx169_1)
                     (try simp only [show (5 : Int).toNat = 5 from rfl, Nat.reduceMul, Nat.reduceEqDiff, Go.Addr.add, ↓reduceIte] at hx169_2)
                     (try simp only [show (5 : Int).toNat = 5 from rfl, Nat.reduceMul, Nat.reduceEqDiff, Go.Addr.add, ↓reduceIte] at hx169_3)
                     (try simp only [show (5 : Int).toNat = 5 from rfl, Nat.reduceMul, Nat.reduceEqDiff, Go.Addr.add, ↓reduceIte] at hx169_4)
                     have qi169 : (5 < l0.length) = True := eq_true (by omega)
                     (try rw [show ((5 : Int)).toNat = 5 from rfl] at hx169_0)
                     (try rw [show 5 * 5 = 25 from rfl] at hx169_0)
                     (try rw [show ((5 : Int)).toNat = 5 from rfl] at hx169_1)
                     (try rw [show 5 * 5 = 25 from rfl] at hx169_1)
                     (try rw [show ((5 : Int)).toNat = 5 from rfl] at hx169_2)
                     (try rw [show 5 * 5 = 25 from rfl] at hx169_2)
                     (try rw [show ((5 : Int)).toNat = 5 from rfl] at hx169_3)
                     (try rw [show 5 * 5 = 25 from rfl] at hx169_3)
                     (try rw [show ((5 : Int)).toNat = 5 from rfl] at hx169_4)
                     (try rw [show 5 * 5 = 25 from rfl] at hx169_4)
                     replace p169 := eq_true p169
                     replace q169 := eq_true q169
                     go_wp2_with (first | (go_at_call 15; (with_reducible refine (pendulumref06_Mode.calls ((rd_T46 l0 5).f1) t170 _ A20.out).mono ?_); rintro e w' ⟨rfl, ⟨nd, rfl⟩⟩))
                     go_roundg kj2
                     case measure => have := HK1.out; have := HJ2.out; omega
                     case rel => exact ⟨(wrap64 (x5_1 + 1)), (by first | rfl | (simp; done) | (simp [*]; done)), H', ⟨by have := HK1.out; have := HJ2.out; omega⟩, by repeat (first | exact Drawn0.refl _ | apply Drawn0.step)⟩
                   ·rw [if_neg c19] at H
                    exact absurd H (by simp)
                  ·rw [if_neg c18] at H
                   have c18b0 : (x5_1 == 5) = false := beq_eq_false_iff_ne.mpr c18
                   have c18b1 : (x5_1 != 5) = true := bne_iff_ne.mpr c18
                   have H' := Aside0.mk H
                   clear H
                   have p163 : 0 ≤ (x5_1 : Int) := of_decide_eq_true (by first | (with_reducible assumption) | assumption)
                   have q163 : x5_1 < (l0.length : Int) := of_decide_eq_true (by first | (with_reducible assumption) | assumption)
                   obtain ⟨ad163, e163, hx163_0, hx163_1, hx163_2, hx163_3, hx163_4⟩ := at_T46 HR0.out x5_1 p163 q163
                   cases e163
                   replace p163 := eq_true p163
                   replace q163 := eq_true q163
                   have p164 : 0 ≤ (x5_1 : Int) := of_decide_eq_true (by first | (with_reducible assumption) | assumption)
                   have q164 : x5_1 < (l1.length : Int) := of_decide_eq_true (by first | (with_reducible assumption) | assumption)
                   obtain ⟨ad164, e164, hx164_0⟩ := Kd.at_int HR1.out x5_1 p164 q164
                   cases e164
                   replace p164 := eq_true p164
                   replace q164 := eq_true q164
                   have p165 : 0 ≤ (1 : Int) := (by omega)
                   have q165 : 1 < (l1.length : Int) := of_decide_eq_true (by first | (with_reducible assumption) | assumption)
                   obtain ⟨ad165, e165, hx165_0⟩ := Kd.at_int HR1.out 1 p165 q165
                   obtain rfl : ad164 = ad165 := (by injection e165)
                   (try simp only [show (1 : Int).toNat = 1 from rfl, Nat.reduceMul, Nat.reduceEqDiff, Go.Addr.add, ↓reduceIte] at hx165_0)
                   have qi165 : (1 < l1.length) = True := eq_true (by omega)
                   (try rw [show ((1 : Int)).toNat = 1 from rfl] at hx165_0)
                   replace p165 := eq_true p165
                   replace q165 := eq_true q165
                   have p166 : 0 ≤ (0 : Int) := (by omega)
                   have q166 : 0 < (l0.length : Int) := of_decide_eq_true (by first | (with_reducible assumption) | assumption)
                   obtain ⟨ad166, e166, hx166_0, hx166_1, hx166_2, hx166_3, hx166_4⟩ := at_T46 HR0.out 0 p166 q166
                   obtain rfl : ad163 = ad166 := (by injection e166)
                   have qi166 : (0 < l0.length) = True := eq_true (by omega)
                   (try rw [show ((0 : Int)).toNat = 0 from rfl] at hx166_0)
                   (try rw [show 0 * 5 = 0 from rfl] at hx166_0)
                   (try rw [Addr.add_zero'] at hx166_0)
                   (try rw [show ((0 : Int)).toNat = 0 from rfl] at hx166_1)
                   (try rw [show 0 * 5 = 0 from rfl] at hx166_1)
                   (try rw [Addr.add_zero'] at hx166_1)
                   (try rw [show ((0 : Int)).toNat = 0 from rfl] at hx166_2)
                   (try rw [show 0 * 5 = 0 from rfl] at hx166_2)
                   (try rw [Addr.add_zero'] at hx166_2)
                   (try rw [show ((0 : Int)).toNat = 0 from rfl] at hx166_3)
                   (try rw [show 0 * 5 = 0 from rfl] at hx166_3)
                   (try rw [Addr.add_zero'] at hx166_3)
                   (try rw [show ((0 : Int)).toNat = 0 from rfl] at hx166_4)
                   (try rw [show 0 * 5 = 0 from rfl] at hx166_4)
                   (try rw [Addr.add_zero'] at hx166_4)
                   replace p166 := eq_true p166
                   replace q166 := eq_true q166
                   have p167 : 0 ≤ (1 : Int) := (by omega)
                   have q167 : 1 < (l1.length : Int) := of_decide_eq_true (by first | (with_reducible assumption) | assumption)
                   obtain ⟨ad167, e167, hx167_0⟩ := Kd.at_int HR1.out 1 p167 q167
                   obtain rfl : ad164 = ad167 := (by injection e167)
                   (try simp only [show (1 : Int).toNat = 1 from rfl, Nat.reduceMul, Nat.reduceEqDiff, Go.Addr.add, ↓reduceIte] at hx167_0)
                   have qi167 : (1 < l1.length) = True := eq_true (by omega)
                   (try rw [show ((1 : Int)).toNat = 1 from rfl] at hx167_0)
                   replace p167 := eq_true p167
                   replace q167 := eq_true q167
                   have p168 : 0 ≤ (0 : Int) := (by omega)
                   have q168 : 0 < (l0.length : Int) := of_decide_eq_true (by first | (with_reducible assumption) | assumption)
                   obtain ⟨ad168, e168, hx168_0, hx168_1, hx168_2, hx168_3, hx168_4⟩ := at_T46 HR0.out 0 p168 q168
                   obtain rfl : ad163 = ad168 := (by injection e168)
                   have qi168 : (0 < l0.length) = True := eq_true (by omega)
                   (try rw [show ((0 : Int)).toNat = 0 from rfl] at hx168_0)
                   (try rw [show 0 * 5 = 0 from rfl] at hx168_0)
                   (try rw [Addr.add_zero'] at hx168_0)
                   (try rw [show ((0 : Int)).toNat = 0 from rfl] at hx168_1)
                   (try rw [show 0 * 5 = 0 from rfl] at hx168_1)
                   (try rw [Addr.add_zero'] at hx168_1)
                   (try rw [show ((0 : Int)).toNat = 0 from rfl] at hx168_2)
                   (try rw [show 0 * 5 = 0 from rfl] at hx168_2)
                   (try rw [Addr.add_zero'] at hx168_2)
                   (try rw [show ((0 : Int)).toNat = 0 from rfl] at hx168_3)
                   (try rw [show 0 * 5 = 0 from rfl] at hx168_3)
                   (try rw [Addr.add_zero'] at hx168_3)
                   (try rw [show ((0 : Int)).toNat = 0 from rfl] at hx168_4)
                   (try rw [show 0 * 5 = 0 from rfl] at hx168_4)
                   (try rw [Addr.add_zero'] at hx168_4)
                   replace p168 := eq_true p168
                   replace q168 := eq_true q168
                   go_wp2
                   go_roundg kj2
                   case measure => have := HK1.out; have := HJ2.out; omega
                   case rel => exact ⟨(wrap64 (x5_1 + 1)), (by first | rfl | (simp; done) | (simp [*]; done)), H', ⟨by have := HK1.out; have := HJ2.out; omega⟩, by repeat (first | exact Drawn0.refl _ | apply Drawn0.step)⟩
                 ·rw [if_neg c17] at H
                  have c17b0 : (((rd_T46 l0 0).f1).toList == ([116, 97, 115, 107] : List UInt8)) = false := beq_eq_false_iff_ne.mpr c17
                  have c17b1 : (((rd_T46 l0 0).f1).toList != ([116, 97, 115, 107] : List UInt8)) = true := bne_iff_ne.mpr c17
                  obtain rfl := Option.some.inj H
                  have p163 : 0 ≤ (x5_1 : Int) := of_decide_eq_true (by first | (with_reducible assumption) | assumption)
                  have q163 : x5_1 < (l0.length : Int) := of_decide_eq_true (by first | (with_reducible assumption) | assumption)
                  obtain ⟨ad163, e163, hx163_0, hx163_1, hx163_2, hx163_3, hx163_4⟩ := at_T46 HR0.out x5_1 p163 q163
                  cases e163
                  replace p163 := eq_true p163
                  replace q163 := eq_true q163
                  have p164 : 0 ≤ (x5_1 : Int) := of_decide_eq_true (by first | (with_reducible assumption) | assumption)
                  have q164 : x5_1 < (l1.length : Int) := of_decide_eq_true (by first | (with_reducible assumption) | assumption)
                  obtain ⟨ad164, e164, hx164_0⟩ := Kd.at_int HR1.out x5_1 p164 q164
                  cases e164
                  replace p164 := eq_true p164
                  replace q164 := eq_true q164
                  have p165 : 0 ≤ (1 : Int) := (by omega)
                  have q165 : 1 < (l1.length : Int) := of_decide_eq_true (by first | (with_reducible assumption) | assumption)
                  obtain ⟨ad165, e165, hx165_0⟩ := Kd.at_int HR1.out 1 p165 q165
                  obtain rfl : ad164 = ad165 := (by injection e165)
                  (try simp only [show (1 : Int).toNat = 1 from rfl, Nat.reduceMul, Nat.reduceEqDiff, Go.Addr.add, ↓reduceIte] at hx165_0)
                  have qi165 : (1 < l1.length) = True := eq_true (by omega)
                  (try rw [show ((1 : Int)).toNat = 1 from rfl] at hx165_0)
                  replace p165 := eq_true p165
                  replace q165 := eq_true q165
                  have p166 : 0 ≤ (0 : Int) := (by omega)
                  have q166 : 0 < (l0.length : Int) := of_decide_eq_true (by first | (with_reducible assumption) | assumption)
                  obtain ⟨ad166, e166, hx166_0, hx166_1, hx166_2, hx166_3, hx166_4⟩ := at_T46 HR0.out 0 p166 q166
                  obtain rfl : ad163 = ad166 := (by injection e166)
                  have qi166 : (0 < l0.length) = True := eq_true (by omega)
                  (try rw [show ((0 : Int)).toNat = 0 from rfl] at hx166_0)
                  (try rw [show 0 * 5 = 0 from rfl] at hx166_0)
                  (try rw [Addr.add_zero'] at hx166_0)
                  (try rw [show ((0 : Int)).toNat = 0 from rfl] at hx166_1)
                  (try rw [show 0 * 5 = 0 from rfl] at hx166_1)
                  (try rw [Addr.add_zero'] at hx166_1)
                  (try rw [show ((0 : Int)).toNat = 0 from rfl] at hx166_2)
                  (try rw [show 0 * 5 = 0 from rfl] at hx166_2)
                  (try rw [Addr.add_zero'] at hx166_2)
                  (try rw [show ((0 : Int)).toNat = 0 from rfl] at hx166_3)
                  (try rw [show 0 * 5 = 0 from rfl] at hx166_3)
                  (try rw [Addr.add_zero'] at hx166_3)
                  (try rw [show ((0 : Int)).toNat = 0 from rfl] at hx166_4)
                  (try rw [show 0 * 5 = 0 from rfl] at hx166_4)
                  (try rw [Addr.add_zero'] at hx166_4)
                  replace p166 := eq_true p166
                  replace q166 := eq_true q166
                  have p167 : 0 ≤ (1 : Int) := (by omega)
                  have q167 : 1 < (l1.length : Int) := of_decide_eq_true (by first | (with_reducible assumption) | assumption)
                  obtain ⟨ad167, e167, hx167_0⟩ := Kd.at_int HR1.out 1 p167 q167
                  obtain rfl : ad164 = ad167 := (by injection e167)
                  (try simp only [show (1 : Int).toNat = 1 from rfl, Nat.reduceMul, Nat.reduceEqDiff, Go.Addr.add, ↓reduceIte] at hx167_0)
                  have qi167 : (1 < l1.length) = True := eq_true (by omega)
                  (try rw [show ((1 : Int)).toNat = 1 from rfl] at hx167_0)
                  replace p167 := eq_true p167
                  replace q167 := eq_true q167
                  have p168 : 0 ≤ (0 : Int) := (by omega)
                  have q168 : 0 < (l0.length : Int) := of_decide_eq_true (by first | (with_reducible assumption) | assumption)
                  obtain ⟨ad168, e168, hx168_0, hx168_1, hx168_2, hx168_3, hx168_4⟩ := at_T46 HR0.out 0 p168 q168
                  obtain rfl : ad163 = ad168 := (by injection e168)
                  have qi168 : (0 < l0.length) = True := eq_true (by omega)
                  (try rw [show ((0 : Int)).toNat = 0 from rfl] at hx168_0)
                  (try rw [show 0 * 5 = 0 from rfl] at hx168_0)
                  (try rw [Addr.add_zero'] at hx168_0)
                  (try rw [show ((0 : Int)).toNat = 0 from rfl] at hx168_1)
                  (try rw [show 0 * 5 = 0 from rfl] at hx168_1)
                  (try rw [Addr.add_zero'] at hx168_1)
                  (try rw [show ((0 : Int)).toNat = 0 from rfl] at hx168_2)
                  (try rw [show 0 * 5 = 0 from rfl] at hx168_2)
                  (try rw [Addr.add_zero'] at hx168_2)
                  (try rw [show ((0 : Int)).toNat = 0 from rfl] at hx168_3)
                  (try rw [show 0 * 5 = 0 from rfl] at hx168_3)
                  (try rw [Addr.add_zero'] at hx168_3)
                  (try rw [show ((0 : Int)).toNat = 0 from rfl] at hx168_4)
                  (try rw [show 0 * 5 = 0 from rfl] at hx168_4)
                  (try rw [Addr.add_zero'] at hx168_4)
                  replace p168 := eq_true p168
                  replace q168 := eq_true q168
                  go_wp2
                  go_ret
                  exact ⟨by first | rfl | (simp; done) | (simp [*]; done), by repeat (first | exact Drawn0.refl _ | apply Drawn0.step)⟩
                ·rw [if_neg c16] at H
                 have c16b0 : ((rd l1 1) == 1) = false := beq_eq_false_iff_ne.mpr c16
                 have c16b1 : ((rd l1 1) != 1) = true := bne_iff_ne.mpr c16
                 by_cases c22 : x5_1 = 5
                 ·rw [if_pos c22] at H
                  have c22b0 : (x5_1 == 5) = true := beq_iff_eq.mpr c22
                  have c22b1 : (x5_1 != 5) = false := bne_eq_false_iff_eq.mpr c22
                  clear c22
                  by_cases c23 : 5 < (l0.length : Int)
                  ·rw [if_pos c23] at H
                   have c23b0 : decide (5 < (l0.length : Int)) = true := decide_eq_true c23
                   have c23b1 : decide (5 < l0.length) = true := decide_eq_true (by omega)
                   clear c23
                   replace H := Option.bind_eq_some_iff.mp H
                   obtain ⟨t172, A240, H⟩ := H
                   replace H : (if t172 = 0 then (some x5_1) else (pendulumref06_shape.l0 kj2 l0 l1 (wrap64 (x5_1 + 1)))) = some r := H
                   have A24 := Aside0.mk A240
                   clear A240
                   by_cases c25 : t172 = 0
                   ·rw [if_pos c25] at H
                    have c25b0 : (t172 == 0) = true := beq_iff_eq.mpr c25
                    have c25b1 : (t172 != 0) = false := bne_eq_false_iff_eq.mpr c25
                    clear c25
                    obtain rfl := Option.some.inj H
                    have p163 : 0 ≤ (x5_1 : Int) := of_decide_eq_true (by first | (with_reducible assumption) | assumption)
                    have q163 : x5_1 < (l0.length : Int) := of_decide_eq_true (by first | (with_reducible assumption) | assumption)
                    obtain ⟨ad163, e163, hx163_0, hx163_1, hx163_2, hx163_3, hx163_4⟩ := at_T46 HR0.out x5_1 p163 q163
                    cases e163
                    replace p163 := eq_true p163
                    replace q163 := eq_true q163
                    have p164 : 0 ≤ (x5_1 : Int) := of_decide_eq_true (by first | (with_reducible assumption) | assumption)
                    have q164 : x5_1 < (l1.length : Int) := of_decide_eq_true (by first | (with_reducible assumption) | assumption)
                    obtain ⟨ad164, e164, hx164_0⟩ := Kd.at_int HR1.out x5_1 p164 q164
                    cases e164
                    replace p164 := eq_true p164
                    replace q164 := eq_true q164
                    have p165 : 0 ≤ (1 : Int) := (by omega)
                    have q165 : 1 < (l1.length : Int) := of_decide_eq_true (by first | (with_reducible assumption) | assumption)
                    obtain ⟨ad165, e165, hx165_0⟩ := Kd.at_int HR1.out 1 p165 q165
                    obtain rfl : ad164 = ad165 := (by injection e165)
                    (try simp only [show (1 : Int).toNat = 1 from rfl, Nat.reduceMul, Nat.reduceEqDiff, Go.Addr.add, ↓reduceIte] at hx165_0)
                    have qi165 : (1 < l1.length) = True := eq_true (by omega)
                    (try rw [show ((1 : Int)).toNat = 1 from rfl] at hx165_0)
                    replace p165 := eq_true p165
                    replace q165 := eq_true q165
                    have p166 : 0 ≤ (0 : Int) := (by omega)
                    have q166 : 0 < (l0.length : Int) := of_decide_eq_true (by first | (with_reducible assumption) | assumption)
                    obtain ⟨ad166, e166, hx166_0, hx166_1, hx166_2, hx166_3, hx166_4⟩ := at_T46 HR0.out 0 p166 q166
                    obtain rfl : ad163 = ad166 := (by injection e166)
                    have qi166 : (0 < l0.length) = True := eq_true (by omega)
                    (try rw [show ((0 : Int)).toNat = 0 from rfl] at hx166_0)
                    (try rw [show 0 * 5 = 0 from rfl] at hx166_0)
                    (try rw [Addr.add_zero'] at hx166_0)
                    (try rw [show ((0 : Int)).toNat = 0 from rfl] at hx166_1)
                    (try rw [show 0 * 5 = 0 from rfl] at hx166_1)
                    (try rw [Addr.add_zero'] at hx166_1)
                    (try rw [show ((0 : Int)).toNat = 0 from rfl] at hx166_2)
                    (try rw [show 0 * 5 = 0 from rfl] at hx166_2)
                    (try rw [Addr.add_zero'] at hx166_2)
                    (try rw [show ((0 : Int)).toNat = 0 from rfl] at hx166_3)
                    (try rw [show 0 * 5 = 0 from rfl] at hx166_3)
                    (try rw [Addr.add_zero'] at hx166_3)
                    (try rw [show ((0 : Int)).toNat = 0 from rfl] at hx166_4)
                    (try rw [show 0 * 5 = 0 from rfl] at hx166_4)
                    (try rw [Addr.add_zero'] at hx166_4)
                    replace p166 := eq_true p166
                    replace q166 := eq_true q166
                    have p167 : 0 ≤ (1 : Int) := (by omega)
                    have q167 : 1 < (l1.length : Int) := of_decide_eq_true (by first | (with_reducible assumption) | assumption)
                    obtain ⟨ad167, e167, hx167_0⟩ := Kd.at_int HR1.out 1 p167 q167
                    obtain rfl : ad164 = ad167 := (by injection e167)
                    (try simp only [show (1 : Int).toNat = 1 from rfl, Nat.reduceMul, Nat.reduceEqDiff, Go.Addr.add, ↓reduceIte] at hx167_0)
                    have qi167 : (1 < l1.length) = True := eq_true (by omega)
                    (try rw [show ((1 : Int)).toNat = 1 from rfl] at hx167_0)
                    replace p167 := eq_true p167
                    replace q167 := eq_true q167
                    have p171 : 0 ≤ (5 : Int) := (by omega)
                    have q171 : 5 < (l0.length : Int) := of_decide_eq_true (by first | (with_reducible assumption) | assumption)
                    obtain ⟨ad171, e171, hx171_0, hx171_1, hx171_2, hx171_3, hx171_4⟩ := at_T46 HR0.out 5 p171 q171
                    obtain rfl : ad163 = ad171 := (by injection e171)
                    (try simp only [show (5 : Int).toNat = 5 from rfl, Nat.reduceMul, Nat.reduceEqDiff, Go.Addr.add, ↓reduceIte] at hx171_0)
                    (try simp only [show (5 : Int).toNat = 5 from rfl, Nat.reduceMul, Nat.reduceEqDiff, Go.Addr.add, ↓reduceIte] at hx171_1)
                    (try simp only [show (5 : Int).toNat = 5 from rfl, Nat.reduceMul, Nat.reduceEqDiff, Go.Addr.add, ↓reduceIte] at hx171_2)
                    (try simp only [show (5 : Int).toNat = 5 from rfl, Nat.reduceMul, Nat.reduceEqDiff, Go.Addr.add, ↓reduceIte] at hx171_3)
                    (try simp only [show (5 : Int).toNat = 5 from rfl, Nat.reduceMul, Nat.reduceEqDiff, Go.Addr.add, ↓reduceIte] at hx171_4)
                    have qi171 : (5 < l0.length) = True := eq_true (by omega)
                    (try rw [show ((5 : Int)).toNat = 5 from rfl] at hx171_0)
                    (try rw [show 5 * 5 = 25 from rfl] at hx171_0)
                    (try rw [show ((5 : Int)).toNat = 5 from rfl] at hx171_1)
                    (try rw [show 5 * 5 = 25 from rfl] at hx171_1)
                    (try rw [show ((5 : Int)).toNat = 5 from rfl] at hx171_2)
                    (try rw [show 5 * 5 = 25 from rfl] at hx171_2)
                    (try rw [show ((5 : Int)).toNat = 5 from rfl] at hx171_3)
                    (try rw [show 5 * 5 = 25 from rfl] at hx171_3)
                    (try rw [show ((5 : Int)).toNat = 5 from rfl] at hx171_4)
                    (try rw [show 5 * 5 = 25 from rfl] at hx171_4)
                    replace p171 := eq_true p171
                    replace q171 := eq_true q171
                    go_wp2_with (first | (go_at_call 15; (with_reducible refine (pendulumref06_Mode.calls ((rd_T46 l0 5).f1) t172 _ A24.out).mono ?_); rintro e w' ⟨rfl, ⟨nd, rfl⟩⟩))
                    go_ret
                    exact ⟨by first | rfl | (simp; done) | (simp [*]; done), by repeat (first | exact Drawn0.refl _ | apply Drawn0.step)⟩
                   ·rw [if_neg c25] at H
                    have c25b0 : (t172 == 0) = false := beq_eq_false_iff_ne.mpr c25
                    have c25b1 : (t172 != 0) = true := bne_iff_ne.mpr c25
                    have H' := Aside0.mk H
                    clear H
                    have p163 : 0 ≤ (x5_1 : Int) := of_decide_eq_true (by first | (with_reducible assumption) | assumption)
                    have q163 : x5_1 < (l0.length : Int) := of_decide_eq_true (by first | (with_reducible assumption) | assumption)
                    obtain ⟨ad163, e163, hx163_0, hx163_1, hx163_2, hx163_3, hx163_4⟩ := at_T46 HR0.out x5_1 p163 q163
                    cases e163
                    replace p163 := eq_true p163
                    replace q163 := eq_true q163
                    have p164 : 0 ≤ (x5_1 : Int) := of_decide_eq_true (by first | (with_reducible assumption) | assumption)
                    have q164 : x5_1 < (l1.length : Int) := of_decide_eq_true (by first | (with_reducible assumption) | assumption)
                    obtain ⟨ad164, e164, hx164_0⟩ := Kd.at_int HR1.out x5_1 p164 q164
                    cases e164
                    replace p164 := eq_true p164
                    replace q164 := eq_true q164
                    have p165 : 0 ≤ (1 : Int) := (by omega)
                    have q165 : 1 < (l1.length : Int) := of_decide_eq_true (by first | (with_reducible assumption) | assumption)
                    obtain ⟨ad165, e165, hx165_0⟩ := Kd.at_int HR1.out 1 p165 q165
                    obtain rfl : ad164 = ad165 := (by injection e165)
                    (try simp only [show (1 : Int).toNat = 1 from rfl, Nat.reduceMul, Nat.reduceEqDiff, Go.Addr.add, ↓reduceIte] at hx165_0)
                    have qi165 : (1 < l1.length) = True := eq_true (by omega)
                    (try rw [show ((1 : Int)).toNat = 1 from rfl] at hx165_0)
                    replace p165 := eq_true p165
                    replace q165 := eq_true q165
                    have p166 : 0 ≤ (0 : Int) := (by omega)
                    have q166 : 0 < (l0.length : Int) := of_decide_eq_true (by first | (with_reducible assumption) | assumption)
                    obtain ⟨ad166, e166, hx166_0, hx166_1, hx166_2, hx166_3, hx166_4⟩ := at_T46 HR0.out 0 p166 q166
                    obtain rfl : ad163 = ad166 := (by injection e166)
                    have qi166 : (0 < l0.length) = True := eq_true (by omega)
                    (try rw [show ((0 : Int)).toNat = 0 from rfl] at hx166_0)
                    (try rw [show 0 * 5 = 0 from rfl] at hx166_0)
                    (try rw [Addr.add_zero'] at hx166_0)
                    (try rw [show ((0 : Int)).toNat = 0 from rfl] at hx166_1)
                    (try rw [show 0 * 5 = 0 from rfl] at hx166_1)
                    (try rw [Addr.add_zero'] at hx166_1)
                    (try rw [show ((0 : Int)).toNat = 0 from rfl] at hx166_2)
                    (try rw [show 0 * 5 = 0 from rfl] at hx166_2)
                    (try rw [Addr.add_zero'] at hx166_2)
                    (try rw [show ((0 : Int)).toNat = 0 from rfl] at hx166_3)
                    (try rw [show 0 * 5 = 0 from rfl] at hx166_3)
                    (try rw [Addr.add_zero'] at hx166_3)
                    (try rw [show ((0 : Int)).toNat = 0 from rfl] at hx166_4)
                    (try rw [show 0 * 5 = 0 from rfl] at hx166_4)
                    (try rw [Addr.add_zero'] at hx166_4)
                    replace p166 := eq_true p166
                    replace q166 := eq_true q166
                    have p167 : 0 ≤ (1 : Int) := (by omega)
                    have q167 : 1 < (l1.length : Int) := of_decide_eq_true (by first | (with_reducible assumption) | assumption)
                    obtain ⟨ad167, e167, hx167_0⟩ := Kd.at_int HR1.out 1 p167 q167
                    obtain rfl : ad164 = ad167 := (by injection e167)
                    (try simp only [show (1 : Int).toNat = 1 from rfl, Nat.reduceMul, Nat.reduceEqDiff, Go.Addr.add, ↓reduceIte] at hx167_0)
                    have qi167 : (1 < l1.length) = True := eq_true (by omega)
                    (try rw [show ((1 : Int)).toNat = 1 from rfl] at hx167_0)
                    replace p167 := eq_true p167
                    replace q167 := eq_true q167
                    have p171 : 0 ≤ (5 : Int) := (by omega)
                    have q171 : 5 < (l0.length : Int) := of_decide_eq_true (by first | (with_reducible assumption) | assumption)
                    obtain ⟨ad171, e171, hx171_0, hx171_1, hx171_2, hx171_3, hx171_4⟩ := at_T46 HR0.out 5 p171 q171
                    obtain rfl : ad163 = ad171 := (by injection e171)
                    (try simp only [show (5 : Int).toNat = 5 from rfl, Nat.reduceMul, Nat.reduceEqDiff, Go.Addr.add, ↓reduceIte] at hx171_0)
                    (try simp only [show (5 : Int).toNat = 5 from rfl, Nat.reduceMul, Nat.reduceEqDiff, Go.Addr.add, ↓reduceIte] at hx171_1)
                    (try simp only [show (5 : Int).toNat = 5 from rfl, Nat.reduceMul, Nat.reduceEqDiff, Go.Addr.add, ↓reduceIte] at hx171_2)
                    (try simp only [show (5 : Int).toNat = 5 from rfl, Nat.reduceMul, Nat.reduceEqDiff, Go.Addr.add, ↓reduceIte] at hx171_3)
                    (try simp only [show (5 : Int).toNat = 5 from rfl, Nat.reduceMul, Nat.reduceEqDiff, Go.Addr.add, ↓reduceIte] at hx171_4)
                    have qi171 : (5 < l0.length) = True := eq_true (by omega)
                    (try rw [show ((5 : Int)).toNat = 5 from rfl] at hx171_0)
                    (try rw [show 5 * 5 = 25 from rfl] at hx171_0)
                    (try rw [show ((5 : Int)).toNat = 5 from rfl] at hx171_1)
                    (try rw [show 5 * 5 = 25 from rfl] at hx171_1)
                    (try rw [show ((5 : Int)).toNat = 5 from rfl] at hx171_2)
                    (try rw [show 5 * 5 = 25 from rfl] at hx171_2)
                    (try rw [show ((5 : Int)).toNat = 5 from rfl] at hx171_3)
                    (try rw [show 5 * 5 = 25 from rfl] at hx171_3)
                    (try rw [show ((5 : Int)).toNat = 5 from rfl] at hx171_4)
                    (try rw [show 5 * 5 = 25 from rfl] at hx171_4)
                    replace p171 := eq_true p171
                    replace q171 := eq_true q171
                    go_wp2_with (first | (go_at_call 15; (with_reducible refine (pendulumref06_Mode.calls ((rd_T46 l0 5).f1) t172 _ A24.out).mono ?_); rintro e w' ⟨rfl, ⟨nd, rfl⟩⟩))
                    go_roundg kj2
                    case measure => have := HK1.out; have := HJ2.out; omega
                    case rel => exact ⟨(wrap64 (x5_1 + 1)), (by first | rfl | (simp; done) | (simp [*]; done)), H', ⟨by have := HK1.out; have := HJ2.out; omega⟩, by repeat (first | exact Drawn0.refl _ | apply Drawn0.step)⟩
                  ·rw [if_neg c23] at H
                   exact absurd H (by simp)
                 ·rw [if_neg c22] at H
                  have c22b0 : (x5_1 == 5) = false := beq_eq_false_iff_ne.mpr c22
                  have c22b1 : (x5_1 != 5) = true := bne_iff_ne.mpr c22
                  have H' := Aside0.mk H
                  clear H
                  have p163 : 0 ≤ (x5_1 : Int) := of_decide_eq_true (by first | (with_reducible assumption) | assumption)
                  have q163 : x5_1 < (l0.length : Int) := of_decide_eq_true (by first | (with_reducible assumption) | assumption)
                  obtain ⟨ad163, e163, hx163_0, hx163_1, hx163_2, hx163_3, hx163_4⟩ := at_T46 HR0.out x5_1 p163 q163
                  cases e163
                  replace p163 := eq_true p163
                  replace q163 := eq_true q163
                  have p164 : 0 ≤ (x5_1 : Int) := of_decide_eq_true (by first | (with_reducible assumption) | assumption)
                  have q164 : x5_1 < (l1.length : Int) := of_decide_eq_true (by first | (with_reducible assumption) | assumption)
                  obtain ⟨ad164, e164, hx164_0⟩ := Kd.at_int HR1.out x5_1 p164 q164
                  cases e164
                  replace p164 := eq_true p164
                  replace q164 := eq_true q164
                  have p165 : 0 ≤ (1 : Int) := (by omega)
                  have q165 : 1 < (l1.length : Int) := of_decide_eq_true (by first | (with_reducible assumption) | assumption)
                  obtain ⟨ad165, e165, hx165_0⟩ := Kd.at_int HR1.out 1 p165 q165
                  obtain rfl : ad164 = ad165 := (by injection e165)
                  (try simp only [show (1 : Int).toNat = 1 from rfl, Nat.reduceMul, Nat.reduceEqDiff, Go.Addr.add, ↓reduceIte] at hx165_0)
                  have qi165 : (1 < l1.length) = True := eq_true (by omega)
                  (try rw [show ((1 : Int)).toNat = 1 from rfl] at hx165_0)
                  replace p165 := eq_true p165
                  replace q165 := eq_true q165
                  have p166 : 0 ≤ (0 : Int) := (by omega)
                  have q166 : 0 < (l0.length : Int) := of_decide_eq_true (by first | (with_reducible assumption) | assumption)
                  obtain ⟨ad166, e166, hx166_0, hx166_1, hx166_2, hx166_3, hx166_4⟩ := at_T46 HR0.out 0 p166 q166
                  obtain rfl : ad163 = ad166 := (by injection e166)
                  have qi166 : (0 < l0.length) = True := eq_true (by omega)
                  (try rw [show ((0 : Int)).toNat = 0 from rfl] at hx166_0)
                  (try rw [show 0 * 5 = 0 from rfl] at hx166_0)
                  (try rw [Addr.add_zero'] at hx166_0)
                  (try rw [show ((0 : Int)).toNat = 0 from rfl] at hx166_1)
                  (try rw [show 0 * 5 = 0 from rfl] at hx166_1)
                  (try rw [Addr.add_zero'] at hx166_1)
                  (try rw [show ((0 : Int)).toNat = 0 from rfl] at hx166_2)
                  (try rw [show 0 * 5 = 0 from rfl] at hx166_2)
                  (try rw [Addr.add_zero'] at hx166_2)
                  (try rw [show ((0 : Int)).toNat = 0 from rfl] at hx166_3)
                  (try rw [show 0 * 5 = 0 from rfl] at hx166_3)
                  (try rw [Addr.add_zero'] at hx166_3)
                  (try rw [show ((0 : Int)).toNat = 0 from rfl] at hx166_4)
                  (try rw [show 0 * 5 = 0 from rfl] at hx166_4)
                  (try rw [Addr.add_zero'] at hx166_4)
                  replace p166 := eq_true p166
                  replace q166 := eq_true q166
                  have p167 : 0 ≤ (1 : Int) := (by omega)
                  have q167 : 1 < (l1.length : Int) := of_decide_eq_true (by first | (with_reducible assumption) | assumption)
                  obtain ⟨ad167, e167, hx167_0⟩ := Kd.at_int HR1.out 1 p167 q167
                  obtain rfl : ad164 = ad167 := (by injection e167)
                  (try simp only [show (1 : Int).toNat = 1 from rfl, Nat.reduceMul, Nat.reduceEqDiff, Go.Addr.add, ↓reduceIte] at hx167_0)
                  have qi167 : (1 < l1.length) = True := eq_true (by omega)
                  (try rw [show ((1 : Int)).toNat = 1 from rfl] at hx167_0)
                  replace p167 := eq_true p167
                  replace q167 := eq_true q167
                  go_wp2
                  go_roundg kj2
                  case measure => have := HK1.out; have := HJ2.out; omega
                  case rel => exact ⟨(wrap64 (x5_1 + 1)), (by first | rfl | (simp; done) | (simp [*]; done)), H', ⟨by have := HK1.out; have := HJ2.out; omega⟩, by repeat (first | exact Drawn0.refl _ | apply Drawn0.step)⟩
               ·rw [if_neg c15] at H
                have c15b0 : (((rd_T46 l0 0).f1).toList == ([98, 117, 114, 115, 116] : List UInt8)) = false := beq_eq_false_iff_ne.mpr c15
                have c15b1 : (((rd_T46 l0 0).f1).toList != ([98, 117, 114, 115, 116] : List UInt8)) = true := bne_iff_ne.mpr c15
                obtain rfl := Option.some.inj H
                have p163 : 0 ≤ (x5_1 : Int) := of_decide_eq_true (by first | (with_reducible assumption) | assumption)
                have q163 : x5_1 < (l0.length : Int) := of_decide_eq_true (by first | (with_reducible assumption) | assumption)
                obtain ⟨ad163, e163, hx163_0, hx163_1, hx163_2, hx163_3, hx163_4⟩ := at_T46 HR0.out x5_1 p163 q163
                cases e163
                replace p163 := eq_true p163
                replace q163 := eq_true q163
                have p164 : 0 ≤ (x5_1 : Int) := of_decide_eq_true (by first | (with_reducible assumption) | assumption)
                have q164 : x5_1 < (l1.length : Int) := of_decide_eq_true (by first | (with_reducible assumption) | assumption)
                obtain ⟨ad164, e164, hx164_0⟩ := Kd.at_int HR1.out x5_1 p164 q164
                cases e164
                replace p164 := eq_true p164
                replace q164 := eq_true q164
                have p165 : 0 ≤ (1 : Int) := (by omega)
                have q165 : 1 < (l1.length : Int) := of_decide_eq_true (by first | (with_reducible assumption) | assumption)
                obtain ⟨ad165, e165, hx165_0⟩ := Kd.at_int HR1.out 1 p165 q165
                obtain rfl : ad164 = ad165 := (by injection e165)
                (try simp only [show (1 : Int).toNat = 1 from rfl, Nat.reduceMul, Nat.reduceEqDiff, Go.Addr.add, ↓reduceIte] at hx165_0)
                have qi165 : (1 < l1.length) = True := eq_true (by omega)
                (try rw [show ((1 : Int)).toNat = 1 from rfl] at hx165_0)
                replace p165 := eq_true p165
                replace q165 := eq_true q165
                have p166 : 0 ≤ (0 : Int) := (by omega)
                have q166 : 0 < (l0.length : Int) := of_decide_eq_true (by first | (with_reducible assumption) | assumption)
                obtain ⟨ad166, e166, hx166_0, hx166_1, hx166_2, hx166_3, hx166_4⟩ := at_T46 HR0.out 0 p166 q166
                obtain rfl : ad163 = ad166 := (by injection e166)
                have qi166 : (0 < l0.length) = True := eq_true (by omega)
                (try rw [show ((0 : Int)).toNat = 0 from rfl] at hx166_0)
                (try rw [show 0 * 5 = 0 from rfl] at hx166_0)
                (try rw [Addr.add_zero'] at hx166_0)
                (try rw [show ((0 : Int)).toNat = 0 from rfl] at hx166_1)
                (try rw [show 0 * 5 = 0 from rfl] at hx166_1)
                (try rw [Addr.add_zero'] at hx166_1)
                (try rw [show ((0 : Int)).toNat = 0 from rfl] at hx166_2)
                (try rw [show 0 * 5 = 0 from rfl] at hx166_2)
                (try rw [Addr.add_zero'] at hx166_2)
                (try rw [show ((0 : Int)).toNat = 0 from rfl] at hx166_3)
                (try rw [show 0 * 5 = 0 from rfl] at hx166_3)
                (try rw [Addr.add_zero'] at hx166_3)
                (try rw [show ((0 : Int)).toNat = 0 from rfl] at hx166_4)
                (try rw [show 0 * 5 = 0 from rfl] at hx166_4)
                (try rw [Addr.add_zero'] at hx166_4)
                replace p166 := eq_true p166
                replace q166 := eq_true q166
                go_wp2
                go_ret
                exact ⟨by first | rfl | (simp; done) | (simp [*]; done), by repeat (first | exact Drawn0.refl _ | apply Drawn0.step)⟩
              ·rw [if_neg c14] at H
               exact absurd H (by simp)
             ·rw [if_neg c13] at H
              have c13b0 : ((rd l1 1) == 2) = false := beq_eq_false_iff_ne.mpr c13
              have c13b1 : ((rd l1 1) != 2) = true := bne_iff_ne.mpr c13
              by_cases c26 : (rd l1 1) = 1
              ·rw [if_pos c26] at H
               have c26b0 : ((rd l1 1) == 1) = true := beq_iff_eq.mpr c26
               have c26b1 : ((rd l1 1) != 1) = false := bne_eq_false_iff_eq.mpr c26
               clear c26
               by_cases c27 : 0 < (l0.length : Int)
               ·rw [if_pos c27] at H
                have c27b0 : decide (0 < (l0.length : Int)) = true := decide_eq_true c27
                have c27b1 : decide (0 < l0.length) = true := decide_eq_true (by omega)
                clear c27
                by_cases c28 : ((rd_T46 l0 0).f1).toList = ([116, 97, 115, 107] : List UInt8)
                ·rw [if_pos c28] at H
                 have c28b0 : (((rd_T46 l0 0).f1).toList == ([116, 97, 115, 107] : List UInt8)) = true := beq_iff_eq.mpr c28
                 have c28b1 : (((rd_T46 l0 0).f1).toList != ([116, 97, 115, 107] : List UInt8)) = false := bne_eq_false_iff_eq.mpr c28
                 clear c28
                 by_cases c29 : x5_1 = 5
                 ·rw [if_pos c29] at H
                  have c29b0 : (x5_1 == 5) = true := beq_iff_eq.mpr c29
                  have c29b1 : (x5_1 != 5) = false := bne_eq_false_iff_eq.mpr c29
                  clear c29
                  by_cases c30 : 5 < (l0.length : Int)
                  ·rw [if_pos c30] at H
                   have c30b0 : decide (5 < (l0.length : Int)) = true := decide_eq_true c30
                   have c30b1 : decide (5 < l0.length) = true := decide_eq_true (by omega)
                   clear c30
                   replace H := Option.bind_eq_some_iff.mp H
                   obtain ⟨t176, A310, H⟩ := H
                   replace H : (if t176 = 0 then (some x5_1) else (pendulumref06_shape.l0 kj2 l0 l1 (wrap64 (x5_1 + 1)))) = some r := H
                   have A31 := Aside0.mk A310
                   clear A310
                   by_cases c32 : t176 = 0
                   ·rw [if_pos c32] at H
                    have c32b0 : (t176 == 0) = true := beq_iff_eq.mpr c32
                    have c32b1 : (t176 != 0) = false := bne_eq_false_iff_eq.mpr c32
                    clear c32
                    obtain rfl := Option.some.inj H
                    have p163 : 0 ≤ (x5_1 : Int) := of_decide_eq_true (by first | (with_reducible assumption) | assumption)
                    have q163 : x5_1 < (l0.length : Int) := of_decide_eq_true (by first | (with_reducible assumption) | assumption)
                    obtain ⟨ad163, e163, hx163_0, hx163_1, hx163_2, hx163_3, hx163_4⟩ := at_T46 HR0.out x5_1 p163 q163
                    cases e163
                    replace p163 := eq_true p163
                    replace q163 := eq_true q163
                    have p164 : 0 ≤ (x5_1 : Int) := of_decide_eq_true (by first | (with_reducible assumption) | assumption)
                    have q164 : x5_1 < (l1.length : Int) := of_decide_eq_true (by first | (with_reducible assumption) | assumption)
                    obtain ⟨ad164, e164, hx164_0⟩ := Kd.at_int HR1.out x5_1 p164 q164
                    cases e164
                    replace p164 := eq_true p164
                    replace q164 := eq_true q164
                    have p165 : 0 ≤ (1 : Int) := (by omega)
                    have q165 : 1 < (l1.length : Int) := of_decide_eq_true (by first | (with_reducible assumption) | assumption)
                    obtain ⟨ad165, e165, hx165_0⟩ := Kd.at_int HR1.out 1 p165 q165
                    obtain rfl : ad164 = ad165 := (by injection e165)
                    (try simp only [show (1 : Int).toNat = 1 from rfl, Nat.reduceMul, Nat.reduceEqDiff, Go.Addr.add, ↓reduceIte] at hx165_0)
                    have qi165 : (1 < l1.length) = True := eq_true (by omega)
                    (try rw [show ((1 : Int)).toNat = 1 from rfl] at hx165_0)
                    replace p165 := eq_true p165
                    replace q165 := eq_true q165
                    have p173 : 0 ≤ (1 : Int) := (by omega)
                    have q173 : 1 < (l1.length : Int) := of_decide_eq_true (by first | (with_reducible assumption) | assumption)
                    obtain ⟨ad173, e173, hx173_0⟩ := Kd.at_int HR1.out 1 p173 q173
                    obtain rfl : ad164 = ad173 := (by injection e173)
                    (try simp only [show (1 : Int).toNat = 1 from rfl, Nat.reduceMul, Nat.reduceEqDiff, Go.Addr.add, ↓reduceIte] at hx173_0)
                    have qi173 : (1 < l1.length) = True := eq_true (by omega)
                    (try rw [show ((1 : Int)).toNat = 1 from rfl] at hx173_0)
                    replace p173 := eq_true p173
                    replace q173 := eq_true q173
                    have p174 : 0 ≤ (0 : Int) := (by omega)
                    have q174 : 0 < (l0.length : Int) := of_decide_eq_true (by first | (with_reducible assumption) | assumption)
                    obtain ⟨ad174, e174, hx174_0, hx174_1, hx174_2, hx174_3, hx174_4⟩ := at_T46 HR0.out 0 p174 q174
                    obtain rfl : ad163 = ad174 := (by injection e174)
                    have qi174 : (0 < l0.length) = True := eq_true (by omega)
                    (try rw [show ((0 : Int)).toNat = 0 from rfl] at hx174_0)
                    (try rw [show 0 * 5 = 0 from rfl] at hx174_0)
                    (try rw [Addr.add_zero'] at hx174_0)
                    (try rw [show ((0 : Int)).toNat = 0 from rfl] at hx174_1)
                    (try rw [show 0 * 5 = 0 from rfl] at hx174_1)
                    (try rw [Addr.add_zero'] at hx174_1)
                    (try rw [show ((0 : Int)).toNat = 0 from rfl] at hx174_2)
                    (try rw [show 0 * 5 = 0 from rfl] at hx174_2)
                    (try rw [Addr.add_zero'] at hx174_2)
                    (try rw [show ((0 : Int)).toNat = 0 from rfl] at hx174_3)
                    (try rw [show 0 * 5 = 0 from rfl] at hx174_3)
                    (try rw [Addr.add_zero'] at hx174_3)
                    (try rw [show ((0 : Int)).toNat = 0 from rfl] at hx174_4)
                    (try rw [show 0 * 5 = 0 from rfl] at hx174_4)
                    (try rw [Addr.add_zero'] at hx174_4)
                    replace p174 := eq_true p174
                    replace q174 := eq_true q174
                    have p175 : 0 ≤ (5 : Int) := (by omega)
                    have q175 : 5 < (l0.length : Int) := of_decide_eq_true (by first | (with_reducible assumption) | assumption)
                    obtain ⟨ad175, e175, hx175_0, hx175_1, hx175_2, hx175_3, hx175_4⟩ := at_T46 HR0.out 5 p175 q175
                    obtain rfl : ad163 = ad175 := (by injection e175)
                    (try simp only [show (5 : Int).toNat = 5 from rfl, Nat.reduceMul, Nat.reduceEqDiff, Go.Addr.add, ↓reduceIte] at hx175_0)
                    (try simp only [show (5 : Int).toNat = 5 from rfl, Nat.reduceMul, Nat.reduceEqDiff, Go.Addr.add, ↓reduceIte] at hx175_1)
                    (try simp only [show (5 : Int).toNat = 5 from rfl, Nat.reduceMul, Nat.reduceEqDiff, Go.Addr.add, ↓reduceIte] at hx175_2)
                    (try simp only [show (5 : Int).toNat = 5 from rfl, Nat.reduceMul, Nat.reduceEqDiff, Go.Addr.add, ↓reduceIte] at hx175_3)
                    (try simp only [show (5 : Int).toNat = 5 from rfl, Nat.reduceMul, Nat.reduceEqDiff, Go.Addr.add, ↓reduceIte] at hx175_4)
                    have qi175 : (5 < l0.length) = True := eq_true (by omega)
                    (try rw [show ((5 : Int)).toNat = 5 from rfl] at hx175_0)
                    (try rw [show 5 * 5 = 25 from rfl] at hx175_0)
                    (try rw [show ((5 : Int)).toNat = 5 from rfl] at hx175_1)
                    (try rw [show 5 * 5 = 25 from rfl] at hx175_1)
                    (try rw [show ((5 : Int)).toNat = 5 from rfl] at hx175_2)
                    (try rw [show 5 * 5 = 25 from rfl] at hx175_2)
                    (try rw [show ((5 : Int)).toNat = 5 from rfl] at hx175_3)
                    (try rw [show 5 * 5 = 25 from rfl] at hx175_3)
                    (try rw [show ((5 : Int)).toNat = 5 from rfl] at hx175_4)
                    (try rw [show 5 * 5 = 25 from rfl] at hx175_4)
                    replace p175 := eq_true p175
                    replace q175 := eq_true q175
                    go_wp2_with (first | (go_at_call 15; (with_reducible refine (pendulumref06_Mode.calls ((rd_T46 l0 5).f1) t176 _ A31.out).mono ?_); rintro e w' ⟨rfl, ⟨nd, rfl⟩⟩))
                    go_ret
                    exact ⟨by first | rfl | (simp; done) | (simp [*]; done), by repeat (first | exact Drawn0.refl _ | apply Drawn0.step)⟩
                   ·rw [if_neg c32] at H
                    have c32b0 : (t176 == 0) = false := beq_eq_false_iff_ne.mpr c32
                    have c32b1 : (t176 != 0) = true := bne_iff_ne.mpr c32
                    have H' := Aside0.mk H
                    clear H
                    have p163 : 0 ≤ (x5_1 : Int) := of_decide_eq_true (by first | (with_reducible assumption) | assumption)
                    have q163 : x5_1 < (l0.length : Int) := of_decide_eq_true (by first | (with_reducible assumption) | assumption)
                    obtain ⟨ad163, e163, hx163_0, hx163_1, hx163_2, hx163_3, hx163_4⟩ := at_T46 HR0.out x5_1 p163 q163
                    cases e163
                    replace p163 := eq_true p163
                    replace q163 := eq_true q163
                    have p164 : 0 ≤ (x5_1 : Int) := of_decide_eq_true (by first | (with_reducible assumption) | assumption)
                    have q164 : x5_1 < (l1.length : Int) := of_decide_eq_true (by first | (with_reducible assumption) | assumption)
                    obtain ⟨ad164, e164, hx164_0⟩ := Kd.at_int HR1.out x5_1 p164 q164
                    cases e164
                    replace p164 := eq_true p164
                    replace q164 := eq_true q164
                    have p165 : 0 ≤ (1 : Int) := (by omega)
                    have q165 : 1 < (l1.length : Int) := of_decide_eq_true (by first | (with_reducible assumption) | assumption)
                    obtain ⟨ad165, e165, hx165_0⟩ := Kd.at_int HR1.out 1 p165 q165
                    obtain rfl : ad164 = ad165 := (by injection e165)
                    (try simp only [show (1 : Int).toNat = 1 from rfl, Nat.reduceMul, Nat.reduceEqDiff, Go.Addr.add, ↓reduceIte] at hx165_0)
                    have qi165 : (1 < l1.length) = True := eq_true (by omega)
                    (try rw [show ((1 : Int)).toNat = 1 from rfl] at hx165_0)
                    replace p165 := eq_true p165
                    replace q165 := eq_true q165
                    have p173 : 0 ≤ (1 : Int) := (by omega)
                    have q173 : 1 < (l1.length : Int) := of_decide_eq_true (by first | (with_reducible assumption) | assumption)
                    obtain ⟨ad173, e173, hx173_0⟩ := Kd.at_int HR1.out 1 p173 q173
                    obtain rfl : ad164 = ad173 := (by injection e173)
                    (try simp only [show (1 : Int).toNat = 1 from rfl, Nat.reduceMul, Nat.reduceEqDiff, Go.Addr.add, ↓reduceIte] at hx173_0)
                    have qi173 : (1 < l1.length) = True := eq_true (by omega)
                    (try rw [show ((1 : Int)).toNat = 1 from rfl] at hx173_0)
                    replace p173 := eq_true p173
                    replace q173 := eq_true q173
                    have p174 : 0 ≤ (0 : Int) := (by omega)
                    have q174 : 0 < (l0.length : Int) := of_decide_eq_true (by first | (with_reducible assumption) | assumption)
                    obtain ⟨ad174, e174, hx174_0, hx174_1, hx174_2, hx174_3, hx174_4⟩ := at_T46 HR0.out 0 p174 q174
                    obtain rfl : ad163 = ad174 := (by injection e174)
                    have qi174 : (0 < l0.length) = True := eq_true (by omega)
                    (try rw [show ((0 : Int)).toNat = 0 from rfl] at hx174_0)
                    (try rw [show 0 * 5 = 0 from rfl] at hx174_0)
                    (try rw [Addr.add_zero'] at hx174_0)
                    (try rw [show ((0 : Int)).toNat = 0 from rfl] at hx174_1)
                    (try rw [show 0 * 5 = 0 from rfl] at hx174_1)
                    (try rw [Addr.add_zero'] at hx174_1)
                    (try rw [show ((0 : Int)).toNat = 0 from rfl] at hx174_2)
                    (try rw [show 0 * 5 = 0 from rfl] at hx174_2)
                    (try rw [Addr.add_zero'] at hx174_2)
                    (try rw [show ((0 : Int)).toNat = 0 from rfl] at hx174_3)
                    (try rw [show 0 * 5 = 0 from rfl] at hx174_3)
                    (try rw [Addr.add_zero'] at hx174_3)
                    (try rw [show ((0 : Int)).toNat = 0 from rfl] at hx174_4)
                    (try rw [show 0 * 5 = 0 from rfl] at hx174_4)
                    (try rw [Addr.add_zero'] at hx174_4)
                    replace p174 := eq_true p174
                    replace q174 := eq_true q174
                    have p175 : 0 ≤ (5 : Int) := (by omega)
                    have q175 : 5 < (l0.length : Int) := of_decide_eq_true (by first | (with_reducible assumption) | assumption)
                    obtain ⟨ad175, e175, hx175_0, hx175_1, hx175_2, hx175_3, hx175_4⟩ := at_T46 HR0.out 5 p175 q175
                    obtain rfl : ad163 = ad175 := (by injection e175)
                    (try simp only [show (5 : Int).toNat = 5 from rfl, Nat.reduceMul, Nat.reduceEqDiff, Go.Addr.add, ↓reduceIte] at hx175_0)
                    (try simp only [show (5 : Int).toNat = 5 from rfl, Nat.reduceMul, Nat.reduceEqDiff, Go.Addr.add, ↓reduceIte] at hx175_1)
                    (try simp only [show (5 : Int).toNat = 5 from rfl, Nat.reduceMul, Nat.reduceEqDiff, Go.Addr.add, ↓reduceIte] at hx175_2)
                    (try simp only [show (5 : Int).toNat = 5 from rfl, Nat.reduceMul, Nat.reduceEqDiff, Go.Addr.add, ↓reduceIte] at hx175_3)
                    (try simp only [show (5 : Int).toNat = 5 from rfl, Nat.reduceMul, Nat.reduceEqDiff, Go.Addr.add, ↓reduceIte] at hx175_4)
                    have qi175 : (5 < l0.length) = True := eq_true (by omega)
                    (try rw [show ((5 : Int)).toNat = 5 from rfl] at hx175_0)
                    (try rw [show 5 * 5 = 25 from rfl] at hx175_0)
                    (try rw [show ((5 : Int)).toNat = 5 from rfl] at hx175_1)
                    (try rw [show 5 * 5 = 25 from rfl] at hx175_1)
                    (try rw [show ((5 : Int)).toNat = 5 from rfl] at hx175_2)
                    (try rw [show 5 * 5 = 25 from rfl] at hx175_2)
                    (try rw [show ((5 : Int)).toNat = 5 from rfl] at hx175_3)
                    (try rw [show 5 * 5 = 25 from rfl] at hx175_3)
                    (try rw [show ((5 : Int)).toNat = 5 from rfl] at hx175_4)
                    (try rw [show 5 * 5 = 25 from rfl] at hx175_4)
                    replace p175 := eq_true p175
                    replace q175 := eq_true q175
                    go_wp2_with (first | (go_at_call 15; (with_reducible refine (pendulumref06_Mode.calls ((rd_T46 l0 5).f1) t176 _ A31.out).mono ?_); rintro e w' ⟨rfl, ⟨nd, rfl⟩⟩))
                    go_roundg kj2
                    case measure => have := HK1.out; have := HJ2.out; omega
                    case rel => exact ⟨(wrap64 (x5_1 + 1)), (by first | rfl | (simp; done) | (simp [*]; done)), H', ⟨by have := HK1.out; have := HJ2.out; omega⟩, by repeat (first | exact Drawn0.refl _ | apply Drawn0.step)⟩
                  ·rw [if_neg c30] at H
                   exact absurd H (by simp)
                 ·rw [if_neg c29] at H
                  have c29b0 : (x5_1 == 5) = false := beq_eq_false_iff_ne.mpr c29
                  have c29b1 : (x5_1 != 5) = true := bne_iff_ne.mpr c29
                  have H' := Aside0.mk H
                  clear H
                  have p163 : 0 ≤ (x5_1 : Int) := of_decide_eq_true (by first | (with_reducible assumption) | assumption)
                  have q163 : x5_1 < (l0.length : Int) := of_decide_eq_true (by first | (with_reducible assumption) | assumption)
                  obtain ⟨ad163, e163, hx163_0, hx163_1, hx163_2, hx163_3, hx163_4⟩ := at_T46 HR0.out x5_1 p163 q163
                  cases e163
                  replace p163 := eq_true p163
                  replace q163 := eq_true q163
                  have p164 : 0 ≤ (x5_1 : Int) := of_decide_eq_true (by first | (with_reducible assumption) | assumption)
                  have q164 : x5_1 < (l1.length : Int) := of_decide_eq_true (by first | (with_reducible assumption) | assumption)
                  obtain ⟨ad164, e164, hx164_0⟩ := Kd.at_int HR1.out x5_1 p164 q164
                  cases e164
                  replace p164 := eq_true p164
                  replace q164 := eq_true q164
                  have p165 : 0 ≤ (1 : Int) := (by omega)
                  have q165 : 1 < (l1.length : Int) := of_decide_eq_true (by first | (with_reducible assumption) | assumption)
                  obtain ⟨ad165, e165, hx165_0⟩ := Kd.at_int HR1.out 1 p165 q165
                  obtain rfl : ad164 = ad165 := (by injection e165)
                  (try simp only [show (1 : Int).toNat = 1 from rfl, Nat.reduceMul, Nat.reduceEqDiff, Go.Addr.add, ↓reduceIte] at hx165_0)
                  have qi165 : (1 < l1.length) = True := eq_true (by omega)
                  (try rw [show ((1 : Int)).toNat = 1 from rfl] at hx165_0)
                  replace p165 := eq_true p165
                  replace q165 := eq_true q165
                  have p173 : 0 ≤ (1 : Int) := (by omega)
                  have q173 : 1 < (l1.length : Int) := of_decide_eq_true (by first | (with_reducible assumption) | assumption)
                  obtain ⟨ad173, e173, hx173_0⟩ := Kd.at_int HR1.out 1 p173 q173
                  obtain rfl : ad164 = ad173 := (by injection e173)
                  (try simp only [show (1 : Int).toNat = 1 from rfl, Nat.reduceMul, Nat.reduceEqDiff, Go.Addr.add, ↓reduceIte] at hx173_0)
                  have qi173 : (1 < l1.length) = True := eq_true (by omega)
                  (try rw [show ((1 : Int)).toNat = 1 from rfl] at hx173_0)
                  replace p173 := eq_true p173
                  replace q173 := eq_true q173
                  have p174 : 0 ≤ (0 : Int) := (by omega)
                  have q174 : 0 < (l0.length : Int) := of_decide_eq_true (by first | (with_reducible assumption) | assumption)
                  obtain ⟨ad174, e174, hx174_0, hx174_1, hx174_2, hx174_3, hx174_4⟩ := at_T46 HR0.out 0 p174 q174
                  obtain rfl : ad163 = ad174 := (by injection e174)
                  have qi174 : (0 < l0.length) = True := eq_true (by omega)
                  (try rw [show ((0 : Int)).toNat = 0 from rfl] at hx174_0)
                  (try rw [show 0 * 5 = 0 from rfl] at hx174_0)
                  (try rw [Addr.add_zero'] at hx174_0)
                  (try rw [show ((0 : Int)).toNat = 0 from rfl] at hx174_1)
                  (try rw [show 0 * 5 = 0 from rfl] at hx174_1)
                  (try rw [Addr.add_zero'] at hx174_1)
                  (try rw [show ((0 : Int)).toNat = 0 from rfl] at hx174_2)
                  (try rw [show 0 * 5 = 0 from rfl] at hx174_2)
                  (try rw [Addr.add_zero'] at hx174_2)
                  (try rw [show ((0 : Int)).toNat = 0 from rfl] at hx174_3)
                  (try rw [show 0 * 5 = 0 from rfl] at hx174_3)
                  (try rw [Addr.add_zero'] at hx174_3)
                  (try rw [show ((0 : Int)).toNat = 0 from rfl] at hx174_4)
                  (try rw [show 0 * 5 = 0 from rfl] at hx174_4)
                  (try rw [Addr.add_zero'] at hx174_4)
                  replace p174 := eq_true p174
                  replace q174 := eq_true q174
                  go_wp2
                  go_roundg kj2
                  case measure => have := HK1.out; have := HJ2.out; omega
                  case rel => exact ⟨(wrap64 (x5_1 + 1)), (by first | rfl | (simp; done) | (simp [*]; done)), H', ⟨by have := HK1.out; have := HJ2.out; omega⟩, by repeat (first | exact Drawn0.refl _ | apply Drawn0.step)⟩
                ·rw [if_neg c28] at H
                 have c28b0 : (((rd_T46 l0 0).f1).toList == ([116, 97, 115, 107] : List UInt8)) = false := beq_eq_false_iff_ne.mpr c28
                 have c28b1 : (((rd_T46 l0 0).f1).toList != ([116, 97, 115, 107] : List UInt8)) = true := bne_iff_ne.mpr c28
                 obtain rfl := Option.some.inj H
                 have p163 : 0 ≤ (x5_1 : Int) := of_decide_eq_true (by first | (with_reducible assumption) | assumption)
                 have q163 : x5_1 < (l0.length : Int) := of_decide_eq_true (by first | (with_reducible assumption) | assumption)
                 obtain ⟨ad163, e163, hx163_0, hx163_1, hx163_2, hx163_3, hx163_4⟩ := at_T46 HR0.out x5_1 p163 q163
                 cases e163
                 replace p163 := eq_true p163
                 replace q163 := eq_true q163
                 have p164 : 0 ≤ (x5_1 : Int) := of_decide_eq_true (by first | (with_reducible assumption) | assumption)
                 have q164 : x5_1 < (l1.length : Int) := of_decide_eq_true (by first | (with_reducible assumption) | assumption)
                 obtain ⟨ad164, e164, hx164_0⟩ := Kd.at_int HR1.out x5_1 p164 q164
                 cases e164
                 replace p164 := eq_true p164
                 replace q164 := eq_true q164
                 have p165 : 0 ≤ (1 : Int) := (by omega)
                 have q165 : 1 < (l1.length : Int) := of_decide_eq_true (by first | (with_reducible assumption) | assumption)
                 obtain ⟨ad165, e165, hx165_0⟩ := Kd.at_int HR1.out 1 p165 q165
                 obtain rfl : ad164 = ad165 := (by injection e165)
                 (try simp only [show (1 : Int).toNat = 1 from rfl, Nat.reduceMul, Nat.reduceEqDiff, Go.Addr.add, ↓reduceIte] at hx165_0)
                 have qi165 : (1 < l1.length) = True := eq_true (by omega)
                 (try rw [show ((1 : Int)).toNat = 1 from rfl] at hx165_0)
                 replace p165 := eq_true p165
                 replace q165 := eq_true q165
                 have p173 : 0 ≤ (1 : Int) := (by omega)
                 have q173 : 1 < (l1.length : Int) := of_decide_eq_true (by first | (with_reducible assumption) | assumption)
                 obtain ⟨ad173, e173, hx173_0⟩ := Kd.at_int HR1.out 1 p173 q173
                 obtain rfl : ad164 = ad173 := (by injection e173)
                 (try simp only [show (1 : Int).toNat = 1 from rfl, Nat.reduceMul, Nat.reduceEqDiff, Go.Addr.add, ↓reduceIte] at hx173_0)
                 have qi173 : (1 < l1.length) = True := eq_true (by omega)
                 (try rw [show ((1 : Int)).toNat = 1 from rfl] at hx173_0)
                 replace p173 := eq_true p173
                 replace q173 := eq_true q173
                 have p174 : 0 ≤ (0 : Int) := (by omega)
                 have q174 : 0 < (l0.length : Int) := of_decide_eq_true (by first | (with_reducible assumption) | assumption)
                 obtain ⟨ad174, e174, hx174_0, hx174_1, hx174_2, hx174_3, hx174_4⟩ := at_T46 HR0.out 0 p174 q174
                 obtain rfl : ad163 = ad174 := (by injection e174)
                 have qi174 : (0 < l0.length) = True := eq_true (by omega)
                 (try rw [show ((0 : Int)).toNat = 0 from rfl] at hx174_0)
                 (try rw [show 0 * 5 = 0 from rfl] at hx174_0)
                 (try rw [Addr.add_zero'] at hx174_0)
                 (try rw [show ((0 : Int)).toNat = 0 from rfl] at hx174_1)
                 (try rw [show 0 * 5 = 0 from rfl] at hx174_1)
                 (try rw [Addr.add_zero'] at hx174_1)
                 (try rw [show ((0 : Int)).toNat = 0 from rfl] at hx174_2)
                 (try rw [show 0 * 5 = 0 from rfl] at hx174_2)
                 (try rw [Addr.add_zero'] at hx174_2)
                 (try rw [show ((0 : Int)).toNat = 0 from rfl] at hx174_3)
                 (try rw [show 0 * 5 = 0 from rfl] at hx174_3)
                 (try rw [Addr.add_zero'] at hx174_3)
                 (try rw [show ((0 : Int)).toNat = 0 from rfl] at hx174_4)
                 (try rw [show 0 * 5 = 0 from rfl] at hx174_4)
                 (try rw [Addr.add_zero'] at hx174_4)
                 replace p174 := eq_true p174
                 replace q174 := eq_true q174
                 go_wp2
                 go_ret
                 exact ⟨by first | rfl | (simp; done) | (simp [*]; done), by repeat (first | exact Drawn0.refl _ | apply Drawn0.step)⟩
               ·rw [if_neg c27] at H
                exact absurd H (by simp)
              ·rw [if_neg c26] at H
               have c26b0 : ((rd l1 1) == 1) = false := beq_eq_false_iff_ne.mpr c26
               have c26b1 : ((rd l1 1) != 1) = true := bne_iff_ne.mpr c26
               by_cases c33 : x5_1 = 5
               ·rw [if_pos c33] at H
                have c33b0 : (x5_1 == 5) = true := beq_iff_eq.mpr c33
                have c33b1 : (x5_1 != 5) = false := bne_eq_false_iff_eq.mpr c33
                clear c33
                by_cases c34 : 5 < (l0.length : Int)
                ·rw [if_pos c34] at H
                 have c34b0 : decide (5 < (l0.length : Int)) = true := decide_eq_true c34
                 have c34b1 : decide (5 < l0.length) = true := decide_eq_true (by omega)
                 clear c34
                 replace H := Option.bind_eq_some_iff.mp H
                 obtain ⟨t178, A350, H⟩ := H
                 replace H : (if t178 = 0 then (some x5_1) else (pendulumref06_shape.l0 kj2 l0 l1 (wrap64 (x5_1 + 1)))) = some r := H
                 have A35 := Aside0.mk A350
                 clear A350
                 by_cases c36 : t178 = 0
                 ·rw [if_pos c36] at H
                  have c36b0 : (t178 == 0) = true := beq_iff_eq.mpr c36
                  have c36b1 : (t178 != 0) = false := bne_eq_false_iff_eq.mpr c36
                  clear c36
                  obtain rfl := Option.some.inj H
                  have p163 : 0 ≤ (x5_1 : Int) := of_decide_eq_true (by first | (with_reducible assumption) | assumption)
                  have q163 : x5_1 < (l0.length : Int) := of_decide_eq_true (by first | (with_reducible assumption) | assumption)
                  obtain ⟨ad163, e163, hx163_0, hx163_1, hx163_2, hx163_3, hx163_4⟩ := at_T46 HR0.out x5_1 p163 q163
                  cases e163
                  replace p163 := eq_true p163
                  replace q163 := eq_true q163
                  have p164 : 0 ≤ (x5_1 : Int) := of_decide_eq_true (by first | (with_reducible assumption) | assumption)
                  have q164 : x5_1 < (l1.length : Int) := of_decide_eq_true (by first | (with_reducible assumption) | assumption)
                  obtain ⟨ad164, e164, hx164_0⟩ := Kd.at_int HR1.out x5_1 p164 q164
                  cases e164
                  replace p164 := eq_true p164
                  replace q164 := eq_true q164
                  have p165 : 0 ≤ (1 : Int) := (by omega)
                  have q165 : 1 < (l1.length : Int) := of_decide_eq_true (by first | (with_reducible assumption) | assumption)
                  obtain ⟨ad165, e165, hx165_0⟩ := Kd.at_int HR1.out 1 p165 q165
                  obtain rfl : ad164 = ad165 := (by injection e165)
                  (try simp only [show (1 : Int).toNat = 1 from rfl, Nat.reduceMul, Nat.reduceEqDiff, Go.Addr.add, ↓reduceIte] at hx165_0)
                  have qi165 : (1 < l1.length) = True := eq_true (by omega)
                  (try rw [show ((1 : Int)).toNat = 1 from rfl] at hx165_0)
                  replace p165 := eq_true p165
                  replace q165 := eq_true q165
                  have p173 : 0 ≤ (1 : Int) := (by omega)
                  have q173 : 1 < (l1.length : Int) := of_decide_eq_true (by first | (with_reducible assumption) | assumption)
                  obtain ⟨ad173, e173, hx173_0⟩ := Kd.at_int HR1.out 1 p173 q173
                  obtain rfl : ad164 = ad173 := (by injection e173)
                  (try simp only [show (1 : Int).toNat = 1 from rfl, Nat.reduceMul, Nat.reduceEqDiff, Go.Addr.add, ↓reduceIte] at hx173_0)
                  have qi173 : (1 < l1.length) = True := eq_true (by omega)
                  (try rw [show ((1 : Int)).toNat = 1 from rfl] at hx173_0)
                  replace p173 := eq_true p173
                  replace q173 := eq_true q173
                  have p177 : 0 ≤ (5 : Int) := (by omega)
                  have q177 : 5 < (l0.length : Int) := of_decide_eq_true (by first | (with_reducible assumption) | assumption)
                  obtain ⟨ad177, e177, hx177_0, hx177_1, hx177_2, hx177_3, hx177_4⟩ := at_T46 HR0.out 5 p177 q177
                  obtain rfl : ad163 = ad177 := (by injection e177)
                  (try simp only [show (5 : Int).toNat = 5 from rfl, Nat.reduceMul, Nat.reduceEqDiff, Go.Addr.add, ↓reduceIte] at hx177_0)
                  (try simp only [show (5 : Int).toNat = 5 from rfl, Nat.reduceMul, Nat.reduceEqDiff, Go.Addr.add, ↓reduceIte] at hx177_1)
                  (try simp only [show (5 : Int).toNat = 5 from rfl, Nat.reduceMul, Nat.reduceEqDiff, Go.Addr.add, ↓reduceIte] at hx177_2)
                  (try simp only [show (5 : Int).toNat = 5 from rfl, Nat.reduceMul, Nat.reduceEqDiff, Go.Addr.add, ↓reduceIte] at hx177_3)
                  (try simp only [show (5 : Int).toNat = 5 from rfl, Nat.reduceMul, Nat.reduceEqDiff, Go.Addr.add, ↓reduceIte] at hx177_4)
                  have qi177 : (5 < l0.length) = True := eq_true (by omega)
                  (try rw [show ((5 : Int)).toNat = 5 from rfl] at hx177_0)
                  (try rw [show 5 * 5 = 25 from rfl] at hx177_0)
                  (try rw [show ((5 : Int)).toNat = 5 from rfl] at hx177_1)
                  (try rw [show 5 * 5 = 25 from rfl] at hx177_1)
                  (try rw [show ((5 : Int)).toNat = 5 from rfl] at hx177_2)
                  (try rw [show 5 * 5 = 25 from rfl] at hx177_2)
                  (try rw [show ((5 : Int)).toNat = 5 from rfl] at hx177_3)
                  (try rw [show 5 * 5 = 25 from rfl] at hx177_3)
                  (try rw [show ((5 : Int)).toNat = 5 from rfl] at hx177_4)
                  (try rw [show 5 * 5 = 25 from rfl] at hx177_4)
                  replace p177 := eq_true p177
                  replace q177 := eq_true q177
                  go_wp2_with (first | (go_at_call 15; (with_reducible refine (pendulumref06_Mode.calls ((rd_T46 l0 5).f1) t178 _ A35.out).mono ?_); rintro e w' ⟨rfl, ⟨nd, rfl⟩⟩))
                  go_ret
                  exact ⟨by first | rfl | (simp; done) | (simp [*]; done), by repeat (first | exact Drawn0.refl _ | apply Drawn0.step)⟩
                 ·rw [if_neg c36] at H
                  have c36b0 : (t178 == 0) = false := beq_eq_false_iff_ne.mpr c36
                  have c36b1 : (t178 != 0) = true := bne_iff_ne.mpr c36
                  have H' := Aside0.mk H
                  clear H
                  have p163 : 0 ≤ (x5_1 : Int) := of_decide_eq_true (by first | (with_reducible assumption) | assumption)
                  have q163 : x5_1 < (l0.length : Int) := of_decide_eq_true (by first | (with_reducible assumption) | assumption)
                  obtain ⟨ad163, e163, hx163_0, hx163_1, hx163_2, hx163_3, hx163_4⟩ := at_T46 HR0.out x5_1 p163 q163
                  cases e163
                  replace p163 := eq_true p163
                  replace q163 := eq_true q163
                  have p164 : 0 ≤ (x5_1 : Int) := of_decide_eq_true (by first | (with_reducible assumption) | assumption)
                  have q164 : x5_1 < (l1.length : Int) := of_decide_eq_true (by first | (with_reducible assumption) | assumption)
                  obtain ⟨ad164, e164, hx164_0⟩ := Kd.at_int HR1.out x5_1 p164 q164
                  cases e164
                  replace p164 := eq_true p164
                  replace q164 := eq_true q164
                  have p165 : 0 ≤ (1 : Int) := (by omega)
                  have q165 : 1 < (l1.length : Int) := of_decide_eq_true (by first | (with_reducible assumption) | assumption)
                  obtain ⟨ad165, e165, hx165_0⟩ := Kd.at_int HR1.out 1 p165 q165
                  obtain rfl : ad164 = ad165 := (by injection e165)
                  (try simp only [show (1 : Int).toNat = 1 from rfl, Nat.reduceMul, Nat.reduceEqDiff, Go.Addr.add, ↓reduceIte] at hx165_0)
                  have qi165 : (1 < l1.length) = True := eq_true (by omega)
                  (try rw [show ((1 : Int)).toNat = 1 from rfl] at hx165_0)
                  replace p165 := eq_true p165
                  replace q165 := eq_true q165
                  have p173 : 0 ≤ (1 : Int) := (by omega)
                  have q173 : 1 < (l1.length : Int) := of_decide_eq_true (by first | (with_reducible assumption) | assumption)
                  obtain ⟨ad173, e173, hx173_0⟩ := Kd.at_int HR1.out 1 p173 q173
                  obtain rfl : ad164 = ad173 := (by injection e173)
                  (try simp only [show (1 : Int).toNat = 1 from rfl, Nat.reduceMul, Nat.reduceEqDiff, Go.Addr.add, ↓reduceIte] at hx173_0)
                  have qi173 : (1 < l1.length) = True := eq_true (by omega)
                  (try rw [show ((1 : Int)).toNat = 1 from rfl] at hx173_0)
                  replace p173 := eq_true p173
                  replace q173 := eq_true q173
                  have p177 : 0 ≤ (5 : Int) := (by omega)
                  have q177 : 5 < (l0.length : Int) := of_decide_eq_true (by first | (with_reducible assumption) | assumption)
                  obtain ⟨ad177, e177, hx177_0, hx177_1, hx177_2, hx177_3, hx177_4⟩ := at_T46 HR0.out 5 p177 q177
                  obtain rfl : ad163 = ad177 := (by injection e177)
                  (try simp only [show (5 : Int).toNat = 5 from rfl, Nat.reduceMul, Nat.reduceEqDiff, Go.Addr.add, ↓reduceIte] at hx177_0)
                  (try simp only [show (5 : Int).toNat = 5 from rfl, Nat.reduceMul, Nat.reduceEqDiff, Go.Addr.add, ↓reduceIte] at hx177_1)
                  (try simp only [show (5 : Int).toNat = 5 from rfl, Nat.reduceMul, Nat.reduceEqDiff, Go.Addr.add, ↓reduceIte] at hx177_2)
                  (try simp only [show (5 : Int).toNat = 5 from rfl, Nat.reduceMul, Nat.reduceEqDiff, Go.Addr.add, ↓reduceIte] at hx177_3)
                  (try simp only [show (5 : Int).toNat = 5 from rfl, Nat.reduceMul, Nat.reduceEqDiff, Go.Addr.add, ↓reduceIte] at hx177_4)
                  have qi177 : (5 < l0.length) = True := eq_true (by omega)
                  (try rw [show ((5 : Int)).toNat = 5 from rfl] at hx177_0)
                  (try rw [show 5 * 5 = 25 from rfl] at hx177_0)
                  (try rw [show ((5 : Int)).toNat = 5 from rfl] at hx177_1)
                  (try rw [show 5 * 5 = 25 from rfl] at hx177_1)
                  (try rw [show ((5 : Int)).toNat = 5 from rfl] at hx177_2)
                  (try rw [show 5 * 5 = 25 from rfl] at hx177_2)
                  (try rw [show ((5 : Int)).toNat = 5 from rfl] at hx177_3)
                  (try rw [show 5 * 5 = 25 from rfl] at hx177_3)
                  (try rw [show ((5 : Int)).toNat = 5 from rfl] at hx177_4)
                  (try rw [show 5 * 5 = 25 from rfl] at hx177_4)
                  replace p177 := eq_true p177
                  replace q177 := eq_true q177
                  go_wp2_with (first | (go_at_call 15; (with_reducible refine (pendulumref06_Mode.calls ((rd_T46 l0 5).f1) t178 _ A35.out).mono ?_); rintro e w' ⟨rfl, ⟨nd, rfl⟩⟩))
                  go_roundg kj2
                  case measure => have := HK1.out; have := HJ2.out; omega
                  case rel => exact ⟨(wrap64 (x5_1 + 1)), (by first | rfl | (simp; done) | (simp [*]; done)), H', ⟨by have := HK1.out; have := HJ2.out; omega⟩, by repeat (first | exact Drawn0.refl _ | apply Drawn0.step)⟩
                ·rw [if_neg c34] at H
                 exact absurd H (by simp)
               ·rw [if_neg c33] at H
                have c33b0 : (x5_1 == 5) = false := beq_eq_false_iff_ne.mpr c33
                have c33b1 : (x5_1 != 5) = true := bne_iff_ne.mpr c33
                have H' := Aside0.mk H
                clear H
                have p163 : 0 ≤ (x5_1 : Int) := of_decide_eq_true (by first | (with_reducible assumption) | assumption)
                have q163 : x5_1 < (l0.length : Int) := of_decide_eq_true (by first | (with_reducible assumption) | assumption)
                obtain ⟨ad163, e163, hx163_0, hx163_1, hx163_2, hx163_3, hx163_4⟩ := at_T46 HR0.out x5_1 p163 q163
                cases e163
                replace p163 := eq_true p163
                replace q163 := eq_true q163
                have p164 : 0 ≤ (x5_1 : Int) := of_decide_eq_true (by first | (with_reducible assumption) | assumption)
                have q164 : x5_1 < (l1.length : Int) := of_decide_eq_true (by first | (with_reducible assumption) | assumption)
                obtain ⟨ad164, e164, hx164_0⟩ := Kd.at_int HR1.out x5_1 p164 q164
                cases e164
                replace p164 := eq_true p164
                replace q164 := eq_true q164
                have p165 : 0 ≤ (1 : Int) := (by omega)
                have q165 : 1 < (l1.length : Int) := of_decide_eq_true (by first | (with_reducible assumption) | assumption)
                obtain ⟨ad165, e165, hx165_0⟩ := Kd.at_int HR1.out 1 p165 q165
                obtain rfl : ad164 = ad165 := (by injection e165)
                (try simp only [show (1 : Int).toNat = 1 from rfl, Nat.reduceMul, Nat.reduceEqDiff, Go.Addr.add, ↓reduceIte] at hx165_0)
                have qi165 : (1 < l1.length) = True := eq_true (by omega)
                (try rw [show ((1 : Int)).toNat = 1 from rfl] at hx165_0)
                replace p165 := eq_true p165
                replace q165 := eq_true q165
                have p173 : 0 ≤ (1 : Int) := (by omega)
                have q173 : 1 < (l1.length : Int) := of_decide_eq_true (by first | (with_reducible assumption) | assumption)
                obtain ⟨ad173, e173, hx173_0⟩ := Kd.at_int HR1.out 1 p173 q173
                obtain rfl : ad164 = ad173 := (by injection e173)
                (try simp only [show (1 : Int).toNat = 1 from rfl, Nat.reduceMul, Nat.reduceEqDiff, Go.Addr.add, ↓reduceIte] at hx173_0)
                have qi173 : (1 < l1.length) = True := eq_true (by omega)
                (try rw [show ((1 : Int)).toNat = 1 from rfl] at hx173_0)
                replace p173 := eq_true p173
                replace q173 := eq_true q173
                go_wp2
                go_roundg kj2
                case measure => have := HK1.out; have := HJ2.out; omega
                case rel => exact ⟨(wrap64 (x5_1 + 1)), (by first | rfl | (simp; done) | (simp [*]; done)), H', ⟨by have := HK1.out; have := HJ2.out; omega⟩, by repeat (first | exact Drawn0.refl _ | apply Drawn0.step)⟩
            ·rw [if_neg c12] at H
             exact absurd H (by simp)
           ·rw [if_neg c11] at H
            have c11b0 : (x5_1 == 0) = false := beq_eq_false_iff_ne.mpr c11
            have c11b1 : (x5_1 != 0) = true := bne_iff_ne.mpr c11
            by_cases c37 : x5_1 = 5
            ·rw [if_pos c37] at H
             have c37b0 : (x5_1 == 5) = true := beq_iff_eq.mpr c37
             have c37b1 : (x5_1 != 5) = false := bne_eq_false_iff_eq.mpr c37
             clear c37
             by_cases c38 : 5 < (l0.length : Int)
             ·rw [if_pos c38] at H
              have c38b0 : decide (5 < (l0.length : Int)) = true := decide_eq_true c38
              have c38b1 : decide (5 < l0.length) = true := decide_eq_true (by omega)
              clear c38
              replace H := Option.bind_eq_some_iff.mp H
              obtain ⟨t180, A390, H⟩ := H
              replace H : (if t180 = 0 then (some x5_1) else (pendulumref06_shape.l0 kj2 l0 l1 (wrap64 (x5_1 + 1)))) = some r := H
              have A39 := Aside0.mk A390
              clear A390
              by_cases c40 : t180 = 0
              ·rw [if_pos c40] at H
               have c40b0 : (t180 == 0) = true := beq_iff_eq.mpr c40
               have c40b1 : (t180 != 0) = false := bne_eq_false_iff_eq.mpr c40
               clear c40
               obtain rfl := Option.some.inj H
               have p163 : 0 ≤ (x5_1 : Int) := of_decide_eq_true (by first | (with_reducible assumption) | assumption)
               have q163 : x5_1 < (l0.length : Int) := of_decide_eq_true (by first | (with_reducible assumption) | assumption)
               obtain ⟨ad163, e163, hx163_0, hx163_1, hx163_2, hx163_3, hx163_4⟩ := at_T46 HR0.out x5_1 p163 q163
               cases e163
               replace p163 := eq_true p163
               replace q163 := eq_true q163
               have p164 : 0 ≤ (x5_1 : Int) := of_decide_eq_true (by first | (with_reducible assumption) | assumption)
               have q164 : x5_1 < (l1.length : Int) := of_decide_eq_true (by first | (with_reducible assumption) | assumption)
               obtain ⟨ad164, e164, hx164_0⟩ := Kd.at_int HR1.out x5_1 p164 q164
               cases e164
               replace p164 := eq_true p164
               replace q164 := eq_true q164
               have p179 : 0 ≤ (5 : Int) := (by omega)
               have q179 : 5 < (l0.length : Int) := of_decide_eq_true (by first | (with_reducible assumption) | assumption)
               obtain ⟨ad179, e179, hx179_0, hx179_1, hx179_2, hx179_3, hx179_4⟩ := at_T46 HR0.out 5 p179 q179
               obtain rfl : ad163 = ad179 := (by injection e179)
               (try simp only [show (5 : Int).toNat = 5 from rfl, Nat.reduceMul, Nat.reduceEqDiff, Go.Addr.add, ↓reduceIte] at hx179_0)
               (try simp only [show (5 : Int).toNat = 5 from rfl, Nat.reduceMul, Nat.reduceEqDiff, Go.Addr.add, ↓reduceIte] at hx179_1)
               (try simp only [show (5 : Int).toNat = 5 from rfl, Nat.reduceMul, Nat.reduceEqDiff, Go.Addr.add, ↓reduceIte] at hx179_2)
               (try simp only [show (5 : Int).toNat = 5 from rfl, Nat.reduceMul, Nat.reduceEqDiff, Go.Addr.add, ↓reduceIte] at hx179_3)
               (try simp only [show (5 : Int).toNat = 5 from rfl, Nat.reduceMul, Nat.reduceEqDiff, Go.Addr.add, ↓reduceIte] at hx179_4)
               have qi179 : (5 < l0.length) = True := eq_true (by omega)
               (try rw [show ((5 : Int)).toNat = 5 from rfl] at hx179_0)
               (try rw [show 5 * 5 = 25 from rfl] at hx179_0)
               (try rw [show ((5 : Int)).toNat = 5 from rfl] at hx179_1)
               (try rw [show 5 * 5 = 25 from rfl] at hx179_1)
               (try rw [show ((5 : Int)).toNat = 5 from rfl] at hx179_2)
               (try rw [show 5 * 5 = 25 from rfl] at hx179_2)
               (try rw [show ((5 : Int)).toNat = 5 from rfl] at hx179_3)
               (try rw [show 5 * 5 = 25 from rfl] at hx179_3)
               (try rw [show ((5 : Int)).toNat = 5 from rfl] at hx179_4)
               (try rw [show 5 * 5 = 25 from rfl] at hx179_4)
               replace p179 := eq_true p179
               replace q179 := eq_true q179
               go_wp2_with (first | (go_at_call 15; (with_reducible refine (pendulumref06_Mode.calls ((rd_T46 l0 5).f1) t180 _ A39.out).mono ?_); rintro e w' ⟨rfl, ⟨nd, rfl⟩⟩))
               go_ret
               exact ⟨by first | rfl | (simp; done) | (simp [*]; done), by repeat (first | exact Drawn0.refl _ | apply Drawn0.step)⟩
              ·rw [if_neg c40] at H
               have c40b0 : (t180 == 0) = false := beq_eq_false_iff_ne.mpr c40
               have c40b1 : (t180 != 0) = true := bne_iff_ne.mpr c40
               have H' := Aside0.mk H
               clear H
               have p163 : 0 ≤ (x5_1 : Int) := of_decide_eq_true (by first | (with_reducible assumption) | assumption)
               have q163 : x5_1 < (l0.length : Int) := of_decide_eq_true (by first | (with_reducible assumption) | assumption)
               obtain ⟨ad163, e163, hx163_0, hx163_1, hx163_2, hx163_3, hx163_4⟩ := at_T46 HR0.out x5_1 p163 q163
               cases e163
               replace p163 := eq_true p163
               replace q163 := eq_true q163
               have p164 : 0 ≤ (x5_1 : Int) := of_decide_eq_true (by first | (with_reducible assumption) | assumption)
               have q164 : x5_1 < (l1.length : Int) := of_decide_eq_true (by first | (with_reducible assumption) | assumption)
               obtain ⟨ad164, e164, hx164_0⟩ := Kd.at_int HR1.out x5_1 p164 q164
               cases e164
               replace p164 := eq_true p164
               replace q164 := eq_true q164
               have p179 : 0 ≤ (5 : Int) := (by omega)
               have q179 : 5 < (l0.length : Int) := of_decide_eq_true (by first | (with_reducible assumption) | assumption)
               obtain ⟨ad179, e179, hx179_0, hx179_1, hx179_2, hx179_3, hx179_4⟩ := at_T46 HR0.out 5 p179 q179
               obtain rfl : ad163 = ad179 := (by injection e179)
               (try simp only [show (5 : Int).toNat = 5 from rfl, Nat.reduceMul, Nat.reduceEqDiff, Go.Addr.add, ↓reduceIte] at hx179_0)
               (try simp only [show (5 : Int).toNat = 5 from rfl, Nat.reduceMul, Nat.reduceEqDiff, Go.Addr.add, ↓reduceIte] at hx179_1)
               (try simp only [show (5 : Int).toNat = 5 from rfl, Nat.reduceMul, Nat.reduceEqDiff, Go.Addr.add, ↓reduceIte] at hx179_2)
               (try simp only [show (5 : Int).toNat = 5 from rfl, Nat.reduceMul, Nat.reduceEqDiff, Go.Addr.add, ↓reduceIte] at hx179_3)
               (try simp only [show (5 : Int).toNat = 5 from rfl, Nat.reduceMul, Nat.reduceEqDiff, Go.Addr.add, ↓reduceIte] at hx179_4)
               have qi179 : (5 < l0.length) = True := eq_true (by omega)
               (try rw [show ((5 : Int)).toNat = 5 from rfl] at hx179_0)
               (try rw [show 5 * 5 = 25 from rfl] at hx179_0)
               (try rw [show ((5 : Int)).toNat = 5 from rfl] at hx179_1)
               (try rw [show 5 * 5 = 25 from rfl] at hx179_1)
               (try rw [show ((5 : Int)).toNat = 5 from rfl] at hx179_2)
               (try rw [show 5 * 5 = 25 from rfl] at hx179_2)
               (try rw [show ((5 : Int)).toNat = 5 from rfl] at hx179_3)
               (try rw [show 5 * 5 = 25 from rfl] at hx179_3)
               (try rw [show ((5 : Int)).toNat = 5 from rfl] at hx179_4)
               (try rw [show 5 * 5 = 25 from rfl] at hx179_4)
               replace p179 := eq_true p179
               replace q179 := eq_true q179
               go_wp2_with (first | (go_at_call 15; (with_reducible refine (pendulumref06_Mode.calls ((rd_T46 l0 5).f1) t180 _ A39.out).mono ?_); rintro e w' ⟨rfl, ⟨nd, rfl⟩⟩))
               go_roundg kj2
               case measure => have := HK1.out; have := HJ2.out; omega
               case rel => exact ⟨(wrap64 (x5_1 + 1)), (by first | rfl | (simp; done) | (simp [*]; done)), H', ⟨by have := HK1.out; have := HJ2.out; omega⟩, by repeat (first | exact Drawn0.refl _ | apply Drawn0.step)⟩
             ·rw [if_neg c38] at H
              exact absurd H (by simp)
            ·rw [if_neg c37] at H
             have c37b0 : (x5_1 == 5) = false := beq_eq_false_iff_ne.mpr c37
             have c37b1 : (x5_1 != 5) = true := bne_iff_ne.mpr c37
             have H' := Aside0.mk H
             clear H
             have p163 : 0 ≤ (x5_1 : Int) := of_decide_eq_true (by first | (with_reducible assumption) | assumption)
             have q163 : x5_1 < (l0.length : Int) := of_decide_eq_true (by first | (with_reducible assumption) | assumption)
             obtain ⟨ad163, e163, hx163_0, hx163_1, hx163_2, hx163_3, hx163_4⟩ := at_T46 HR0.out x5_1 p163 q163
             cases e163
             replace p163 := eq_true p163
             replace q163 := eq_true q163
             have p164 : 0 ≤ (x5_1 : Int) := of_decide_eq_true (by first | (with_reducible assumption) | assumption)
             have q164 : x5_1 < (l1.length : Int) := of_decide_eq_true (by first | (with_reducible assumption) | assumption)
             obtain ⟨ad164, e164, hx164_0⟩ := Kd.at_int HR1.out x5_1 p164 q164
             cases e164
             replace p164 := eq_true p164
             replace q164 := eq_true q164
             go_wp2
             go_roundg kj2
             case measure => have := HK1.out; have := HJ2.out; omega
             case rel => exact ⟨(wrap64 (x5_1 + 1)), (by first | rfl | (simp; done) | (simp [*]; done)), H', ⟨by have := HK1.out; have := HJ2.out; omega⟩, by repeat (first | exact Drawn0.refl _ | apply Drawn0.step)⟩
          ·rw [if_neg c10] at H
           have c10b0 : (3 == (rd l1 x5_1)) = false := beq_eq_false_iff_ne.mpr c10
           have c10b1 : (3 != (rd l1 x5_1)) = true := bne_iff_ne.mpr c10
           obtain rfl := Option.some.inj H
           have p163 : 0 ≤ (x5_1 : Int) := of_decide_eq_true (by first | (with_reducible assumption) | assumption)
           have q163 : x5_1 < (l0.length : Int) := of_decide_eq_true (by first | (with_reducible assumption) | assumption)
           obtain ⟨ad163, e163, hx163_0, hx163_1, hx163_2, hx163_3, hx163_4⟩ := at_T46 HR0.out x5_1 p163 q163
           cases e163
           replace p163 := eq_true p163
           replace q163 := eq_true q163
           have p164 : 0 ≤ (x5_1 : Int) := of_decide_eq_true (by first | (with_reducible assumption) | assumption)
           have q164 : x5_1 < (l1.length : Int) := of_decide_eq_true (by first | (with_reducible assumption) | assumption)
           obtain ⟨ad164, e164, hx164_0⟩ := Kd.at_int HR1.out x5_1 p164 q164
           cases e164
           replace p164 := eq_true p164
           replace q164 := eq_true q164
           go_wp2
           go_ret
           exact ⟨by first | rfl | (simp; done) | (simp [*]; done), by repeat (first | exact Drawn0.refl _ | apply Drawn0.step)⟩
         ·rw [if_neg c9] at H
          exact absurd H (by simp)
        ·rw [if_neg c8] at H
         have c8b0 : (((rd_T46 l0 x5_1).f0) == 4) = false := beq_eq_false_iff_ne.mpr c8
         have c8b1 : (((rd_T46 l0 x5_1).f0) != 4) = true := bne_iff_ne.mpr c8
         by_cases c41 : x5_1 < (l1.length : Int)
         ·rw [if_pos c41] at H
          have c41b0 : decide (x5_1 < (l1.length : Int)) = true := decide_eq_true c41
          clear c41
          by_cases c42 : ((rd_T46 l0 x5_1).f0) = (rd l1 x5_1)
          ·rw [if_pos c42] at H
           have c42b0 : (((rd_T46 l0 x5_1).f0) == (rd l1 x5_1)) = true := beq_iff_eq.mpr c42
           have c42b1 : (((rd_T46 l0 x5_1).f0) != (rd l1 x5_1)) = false := bne_eq_false_iff_eq.mpr c42
           clear c42
           by_cases c43 : x5_1 = 0
           ·rw [if_pos c43] at H
            have c43b0 : (x5_1 == 0) = true := beq_iff_eq.mpr c43
            have c43b1 : (x5_1 != 0) = false := bne_eq_false_iff_eq.mpr c43
            clear c43
            by_cases c44 : 1 < (l1.length : Int)
            ·rw [if_pos c44] at H
             have c44b0 : decide (1 < (l1.length : Int)) = true := decide_eq_true c44
             have c44b1 : decide (1 < l1.length) = true := decide_eq_true (by omega)
             clear c44
             by_cases c45 : (rd l1 1) = 2
             ·rw [if_pos c45] at H
              have c45b0 : ((rd l1 1) == 2) = true := beq_iff_eq.mpr c45
              have c45b1 : ((rd l1 1) != 2) = false := bne_eq_false_iff_eq.mpr c45
              clear c45
              by_cases c46 : 0 < (l0.length : Int)
              ·rw [if_pos c46] at H
               have c46b0 : decide (0 < (l0.length : Int)) = true := decide_eq_true c46
               have c46b1 : decide (0 < l0.length) = true := decide_eq_true (by omega)
               clear c46
               by_cases c47 : ((rd_T46 l0 0).f1).toList = ([98, 117, 114, 115, 116] : List UInt8)
               ·rw [if_pos c47] at H
                have c47b0 : (((rd_T46 l0 0).f1).toList == ([98, 117, 114, 115, 116] : List UInt8)) = true := beq_iff_eq.mpr c47
                have c47b1 : (((rd_T46 l0 0).f1).toList != ([98, 117, 114, 115, 116] : List UInt8)) = false := bne_eq_false_iff_eq.mpr c47
                clear c47
                by_cases c48 : (rd l1 1) = 1
                ·rw [if_pos c48] at H
                 have c48b0 : ((rd l1 1) == 1) = true := beq_iff_eq.mpr c48
                 have c48b1 : ((rd l1 1) != 1) = false := bne_eq_false_iff_eq.mpr c48
                 clear c48
                 by_cases c49 : ((rd_T46 l0 0).f1).toList = ([116, 97, 115, 107] : List UInt8)
                 ·rw [if_pos c49] at H
                  have c49b0 : (((rd_T46 l0 0).f1).toList == ([116, 97, 115, 107] : List UInt8)) = true := beq_iff_eq.mpr c49
                  have c49b1 : (((rd_T46 l0 0).f1).toList != ([116, 97, 115, 107] : List UInt8)) = false := bne_eq_false_iff_eq.mpr c49
                  clear c49
                  by_cases c50 : x5_1 = 5
                  ·rw [if_pos c50] at H
                   have c50b0 : (x5_1 == 5) = true := beq_iff_eq.mpr c50
                   have c50b1 : (x5_1 != 5) = false := bne_eq_false_iff_eq.mpr c50
                   clear c50
                   by_cases c51 : 5 < (l0.length : Int)
                   ·rw [if_pos c51] at H
                    have c51b0 : decide (5 < (l0.length : Int)) = true := decide_eq_true c51
                    have c51b1 : decide (5 < l0.length) = true := decide_eq_true (by omega)
                    clear c51
                    replace H := Option.bind_eq_some_iff.mp H
                    obtain ⟨t187, A520, H⟩ := H
                    replace H : (if t187 = 0 then (some x5_1) else (pendulumref06_shape.l0 kj2 l0 l1 (wrap64 (x5_1 + 1)))) = some r := H
                    have A52 := Aside0.mk A520
                    clear A520
                    by_cases c53 : t187 = 0
                    ·rw [if_pos c53] at H
                     have c53b0 : (t187 == 0) = true := beq_iff_eq.mpr c53
                     have c53b1 : (t187 != 0) = false := bne_eq_false_iff_eq.mpr c53
                     clear c53
                     obtain rfl := Option.some.inj H
                     have p163 : 0 ≤ (x5_1 : Int) := of_decide_eq_true (by first | (with_reducible assumption) | assumption)
                     have q163 : x5_1 < (l0.length : Int) := of_decide_eq_true (by first | (with_reducible assumption) | assumption)
                     obtain ⟨ad163, e163, hx163_0, hx163_1, hx163_2, hx163_3, hx163_4⟩ := at_T46 HR0.out x5_1 p163 q163
                     cases e163
                     replace p163 := eq_true p163
                     replace q163 := eq_true q163
                     have p181 : 0 ≤ (x5_1 : Int) := of_decide_eq_true (by first | (with_reducible assumption) | assumption)
                     have q181 : x5_1 < (l1.length : Int) := of_decide_eq_true (by first | (with_reducible assumption) | assumption)
                     obtain ⟨ad181, e181, hx181_0⟩ := Kd.at_int HR1.out x5_1 p181 q181
                     cases e181
                     replace p181 := eq_true p181
                     replace q181 := eq_true q181
                     have p182 : 0 ≤ (1 : Int) := (by omega)
                     have q182 : 1 < (l1.length : Int) := of_decide_eq_true (by first | (with_reducible assumption) | assumption)
                     obtain ⟨ad182, e182, hx182_0⟩ := Kd.at_int HR1.out 1 p182 q182
                     obtain rfl : ad181 = ad182 := (by injection e182)
                     (try simp only [show (1 : Int).toNat = 1 from rfl, Nat.reduceMul, Nat.reduceEqDiff, Go.Addr.add, ↓reduceIte] at hx182_0)
                     have qi182 : (1 < l1.length) = True := eq_true (by omega)
                     (try rw [show ((1 : Int)).toNat = 1 from rfl] at hx182_0)
                     replace p182 := eq_true p182
                     replace q182 := eq_true q182
                     have p183 : 0 ≤ (0 : Int) := (by omega)
                     have q183 : 0 < (l0.length : Int) := of_decide_eq_true (by first | (with_reducible assumption) | assumption)
                     obtain ⟨ad183, e183, hx183_0, hx183_1, hx183_2, hx183_3, hx183_4⟩ := at_T46 HR0.out 0 p183 q183
                     obtain rfl : ad163 = ad183 := (by injection e183)
                     have qi183 : (0 < l0.length) = True := eq_true (by omega)
                     (try rw [show ((0 : Int)).toNat = 0 from rfl] at hx183_0)
                     (try rw [show 0 * 5 = 0 from rfl] at hx183_0)
                     (try rw [Addr.add_zero'] at hx183_0)
                     (try rw [show ((0 : Int)).toNat = 0 from rfl] at hx183_1)
                     (try rw [show 0 * 5 = 0 from rfl] at hx183_1)
                     (try rw [Addr.add_zero'] at hx183_1)
                     (try rw [show ((0 : Int)).toNat = 0 from rfl] at hx183_2)
                     (try rw [show 0 * 5 = 0 from rfl] at hx183_2)
                     (try rw [Addr.add_zero'] at hx183_2)
                     (try rw [show ((0 : Int)).toNat = 0 from rfl] at hx183_3)
                     (try rw [show 0 * 5 = 0 from rfl] at hx183_3)
                     (try rw [Addr.add_zero'] at hx183_3)
                     (try rw [show ((0 : Int)).toNat = 0 from rfl] at hx183_4)
                     (try rw [show 0 * 5 = 0 from rfl] at hx183_4)
                     (try rw [Addr.add_zero'] at hx183_4)
                     replace p183 := eq_true p183
                     replace q183 := eq_true q183
                     have p184 : 0 ≤ (1 : Int) := (by omega)
                     have q184 : 1 < (l1.length : Int) := of_decide_eq_true (by first | (with_reducible assumption) | assumption)
                     obtain ⟨ad184, e184, hx184_0⟩ := Kd.at_int HR1.out 1 p184 q184
                     obtain rfl : ad181 = ad184 := (by injection e184)
                     (try simp only [show (1 : Int).toNat = 1 from rfl, Nat.reduceMul, Nat.reduceEqDiff, Go.Addr.add, ↓reduceIte] at hx184_0)
                     have qi184 : (1 < l1.length) = True := eq_true (by omega)
                     (try rw [show ((1 : Int)).toNat = 1 from rfl] at hx184_0)
                     replace p184 := eq_true p184
                     replace q184 := eq_true q184
                     have p185 : 0 ≤ (0 : Int) := (by omega)
                     have q185 : 0 < (l0.length : Int) := of_decide_eq_true (by first | (with_reducible assumption) | assumption)
                     obtain ⟨ad185, e185, hx185_0, hx185_1, hx185_2, hx185_3, hx185_4⟩ := at_T46 HR0.out 0 p185 q185
                     obtain rfl : ad163 = ad185 := (by injection e185)
                     have qi185 : (0 < l0.length) = True := eq_true (by omega)
                     (try rw [show ((0 : Int)).toNat = 0 from rfl] at hx185_0)
                     (try rw [show 0 * 5 = 0 from rfl] at hx185_0)
                     (try rw [Addr.add_zero'] at hx185_0)
                     (try rw [show ((0 : Int)).toNat = 0 from rfl] at hx185_1)
                     (try rw [show 0 * 5 = 0 from rfl] at hx185_1)
                     (try rw [Addr.add_zero'] at hx185_1)
                     (try rw [show ((0 : Int)).toNat = 0 from rfl] at hx185_2)
                     (try rw [show 0 * 5 = 0 from rfl] at hx185_2)
                     (try rw [Addr.add_zero'] at hx185_2)
                     (try rw [show ((0 : Int)).toNat = 0 from rfl] at hx185_3)
                     (try rw [show 0 * 5 = 0 from rfl] at hx185_3)
                     (try rw [Addr.add_zero'] at hx185_3)
                     (try rw [show ((0 : Int)).toNat = 0 from rfl] at hx185_4)
                     (try rw [show 0 * 5 = 0 from rfl] at hx185_4)
                     (try rw [Addr.add_zero'] at hx185_4)
                     replace p185 := eq_true p185
                     replace q185 := eq_true q185
                     have p186 : 0 ≤ (5 : Int) := (by omega)
                     have q186 : 5 < (l0.length : Int) := of_decide_eq_true (by first | (with_reducible assumption) | assumption)
                     obtain ⟨ad186, e186, hx186_0, hx186_1, hx186_2, hx186_3, hx186_4⟩ := at_T46 HR0.out 5 p186 q186
                     obtain rfl : ad163 = ad186 := (by injection e186)
                     (try simp only [show (5 : Int).toNat = 5 from rfl, Nat.reduceMul, Nat.reduceEqDiff, Go.Addr.add, ↓reduceIte] at hx186_0)
                     (try simp only [show (5 : Int).toNat = 5 from rfl, Nat.reduceMul, Nat.reduceEqDiff, Go.Addr.add, ↓reduceIte] at hx186_1)
                     (try simp only [show (5 : Int).toNat = 5 from rfl, Nat.reduceMul, Nat.reduceEqDiff, Go.Addr.add, ↓reduceIte] at hx186_2)
                     (try simp only [show (5 : Int).toNat = 5 from rfl, Nat.reduceMul, Nat.reduceEqDiff, Go.Addr.add, ↓reduceIte] at hx186_3)
                     (try simp only [show (5 : Int).toNat = 5 from rfl, Nat.reduceMul, Nat.reduceEqDiff, Go.Addr.add, ↓reduceIte] at hx186_4)
                     have qi186 : (5 < l0.length) = True := eq_true (by omega)
                     (try rw [show ((5 : Int)).toNat = 5 from rfl] at hx186_0)
                     (try rw [show 5 * 5 = 25 from rfl] at hx186_0)
                     (try rw [show ((5 : Int)).toNat = 5 from rfl] at hx186_1)
                     (try rw [show 5 * 5 = 25 from rfl] at hx186_1)
                     (try rw [show ((5 : Int)).toNat = 5 from rfl] at hx186_2)
                     (try rw [show 5 * 5 = 25 from rfl] at hx186_2)
                     (try rw [show ((5 : Int)).toNat = 5 from rfl] at hx186_3)
                     (try rw [show 5 * 5 = 25 from rfl] at hx186_3)
                     (try rw [show ((5 : Int)).toNat = 5 from rfl] at hx186_4)
                     (try rw [show 5 * 5 = 25 from rfl] at hx186_4)
                     replace p186 := eq_true p186
                     replace q186 := eq_true q186
                     go_wp2_with (first | (go_at_call 15; (with_reducible refine (pendulumref06_Mode.calls ((rd_T46 l0 5).f1) t187 _ A52.out).mono ?_); rintro e w' ⟨rfl, ⟨nd, rfl⟩⟩))
                     go_ret
                     exact ⟨by first | rfl | (simp; done) | (simp [*]; done), by repeat (first | exact Drawn0.refl _ | apply Drawn0.step)⟩
                    ·rw [if_neg c53] at H
                     have c53b0 : (t187 == 0) = false := beq_eq_false_iff_ne.mpr c53
                     have c53b1 : (t187 != 0) = true := bne_iff_ne.mpr c53
                     have H' := Aside0.mk H
                     clear H
                     have p163 : 0 ≤ (x5_1 : Int) := of_decide_eq_true (by first | (with_reducible assumption) | assumption)
                     have q163 : x5_1 < (l0.length : Int) := of_decide_eq_true (by first | (with_reducible assumption) | assumption)
                     obtain ⟨ad163, e163, hx163_0, hx163_1, hx163_2, hx163_3, hx163_4⟩ := at_T46 HR0.out x5_1 p163 q163
                     cases e163
                     replace p163 := eq_true p163
                     replace q163 := eq_true q163
                     have p181 : 0 ≤ (x5_1 : Int) := of_decide_eq_true (by first | (with_reducible assumption) | assumption)
                     have q181 : x5_1 < (l1.length : Int) := of_decide_eq_true (by first | (with_reducible assumption) | assumption)
                     obtain ⟨ad181, e181, hx181_0⟩ := Kd.at_int HR1.out x5_1 p181 q181
                     cases e181
                     replace p181 := eq_true p181
                     replace q181 := eq_true q181
                     have p182 : 0 ≤ (1 : Int) := (by omega)
                     have q182 : 1 < (l1.length : Int) := of_decide_eq_true (by first | (with_reducible assumption) | assumption)
                     obtain ⟨ad182, e182, hx182_0⟩ := Kd.at_int HR1.out 1 p182 q182
                     obtain rfl : ad181 = ad182 := (by injection e182)
                     (try simp only [show (1 : Int).toNat = 1 from rfl, Nat.reduceMul, Nat.reduceEqDiff, Go.Addr.add, ↓reduceIte] at hx182_0)
                     have qi182 : (1 < l1.length) = True := eq_true (by omega)
                     (try rw [show ((1 : Int)).toNat = 1 from rfl] at hx182_0)
                     replace p182 := eq_true p182
                     replace q182 := eq_true q182
                     have p183 : 0 ≤ (0 : Int) := (by omega)
                     have q183 : 0 < (l0.length : Int) := of_decide_eq_true (by first | (with_reducible assumption) | assumption)
                     obtain ⟨ad183, e183, hx183_0, hx183_1, hx183_2, hx183_3, hx183_4⟩ := at_T46 HR0.out 0 p183 q183
                     obtain rfl : ad163 = ad183 := (by injection e183)
                     have qi183 : (0 < l0.length) = True := eq_true (by omega)
                     (try rw [show ((0 : Int)).toNat = 0 from rfl] at hx183_0)
                     (try rw [show 0 * 5 = 0 from rfl] at hx183_0)
                     (try rw [Addr.add_zero'] at hx183_0)
                     (try rw [show ((0 : Int)).toNat = 0 from rfl] at hx183_1)
                     (try rw [show 0 * 5 = 0 from rfl] at hx183_1)
                     (try rw [Addr.add_zero'] at hx183_1)
                     (try rw [show ((0 : Int)).toNat = 0 from rfl] at hx183_2)
                     (try rw [show 0 * 5 = 0 from rfl] at hx183_2)
                     (try rw [Addr.add_zero'] at hx183_2)
                     (try rw [show ((0 : Int)).toNat = 0 from rfl] at hx183_3)
                     (try rw [show 0 * 5 = 0 from rfl] at hx183_3)
                     (try rw [Addr.add_zero'] at hx183_3)
                     (try rw [show ((0 : Int)).toNat = 0 from rfl] at hx183_4)
                     (try rw [show 0 * 5 = 0 from rfl] at hx183_4)
                     (try rw [Addr.add_zero'] at hx183_4)
                     replace p183 := eq_true p183
                     replace q183 := eq_true q183
                     have p184 : 0 ≤ (1 : Int) := (by omega)
                     have q184 : 1 < (l1.length : Int) := of_decide_eq_true (by first | (with_reducible assumption) | assumption)
                     obtain ⟨ad184, e184, hx184_0⟩ := Kd.at_int HR1.out 1 p184 q184
                     obtain rfl : ad181 = ad184 := (by injection e184)
                     (try simp only [show (1 : Int).toNat = 1 from rfl, Nat.reduceMul, Nat.reduceEqDiff, Go.Addr.add, ↓reduceIte] at hx184_0)
                     have qi184 : (1 < l1.length) = True := eq_true (by omega)
                     (try rw [show ((1 : Int)).toNat = 1 from rfl] at hx184_0)
                     replace p184 := eq_true p184
                     replace q184 := eq_true q184
                     have p185 : 0 ≤ (0 : Int) := (by omega)
                     have q185 : 0 < (l0.length : Int) := of_decide_eq_true (by first | (with_reducible assumption) | assumption)
                     obtain ⟨ad185, e185, hx185_0, hx185_1, hx185_2, hx185_3, hx185_4⟩ := at_T46 HR0.out 0 p185 q185
                     obtain rfl : ad163 = ad185 := (by injection e185)
                     have qi185 : (0 < l0.length) = True := eq_true (by omega)
                     (try rw [show ((0 : Int)).toNat = 0 from rfl] at hx185_0)
                     (try rw [show 0 * 5 = 0 from rfl] at hx185_0)
                     (try rw [Addr.add_zero'] at hx185_0)
                     (try rw [show ((0 : Int)).toNat = 0 from rfl] at hx185_1)
                     (try rw [show 0 * 5 = 0 from rfl] at hx185_1)
                     (try rw [Addr.add_zero'] at hx185_1)
                     (try rw [show ((0 : Int)).toNat = 0 from rfl] at hx185_2)
                     (try rw [show 0 * 5 = 0 from rfl] at hx185_2)
                     (try rw [Addr.add_zero'] at hx185_2)
                     (try rw [show ((0 : Int)).toNat = 0 from rfl] at hx185_3)
                     (try rw [show 0 * 5 = 0 from rfl] at hx185_3)
                     (try rw [Addr.add_zero'] at hx185_3)
                     (try rw [show ((0 : Int)).toNat = 0 from rfl] at hx185_4)
                     (try rw [show 0 * 5 = 0 from rfl] at hx185_4)
                     (try rw [Addr.add_zero'] at hx185_4)
                     replace p185 := eq_true p185
                     replace q185 := eq_true q185
                     have p186 : 0 ≤ (5 : Int) := (by omega)
                     have q186 : 5 < (l0.length : Int) := of_decide_eq_true (by first | (with_reducible assumption) | assumption)
                     obtain ⟨ad186, e186, hx186_0, hx186_1, hx186_2, hx186_3, hx186_4⟩ := at_T46 HR0.out 5 p186 q186
                     obtain rfl : ad163 = ad186 := (by injection e186)
                     (try simp only [show (5 : Int).toNat = 5 from rfl, Nat.reduceMul, Nat.reduceEqDiff, Go.Addr.add, ↓reduceIte] at hx186_0)
                     (try simp only [show (5 : Int).toNat = 5 from rfl, Nat.reduceMul, Nat.reduceEqDiff, Go.Addr.add, ↓reduceIte] at hx186_1)
                     (try simp only [show (5 : Int).toNat = 5 from rfl, Nat.reduceMul, Nat.reduceEqDiff, Go.Addr.add, ↓reduceIte] at hx186_2)
                     (try simp only [show (5 : Int).toNat = 5 from rfl, Nat.reduceMul, Nat.reduceEqDiff, Go.Addr.add, ↓reduceIte] at hx186_3)
                     (try simp only [show (5 : Int).toNat = 5 from rfl, Nat.reduceMul, Nat.reduceEqDiff, Go.Addr.add, ↓reduceIte] at hx186_4)
                     have qi186 : (5 < l0.length) = True := eq_true (by omega)
                     (try rw [show ((5 : Int)).toNat = 5 from rfl] at hx186_0)
                     (try rw [show 5 * 5 = 25 from rfl] at hx186_0)
                     (try rw [show ((5 : Int)).toNat = 5 from rfl] at hx186_1)
                     (try rw [show 5 * 5 = 25 from rfl] at hx186_1)
                     (try rw [show ((5 : Int)).toNat = 5 from rfl] at hx186_2)
                     (try rw [show 5 * 5 = 25 from rfl] at hx186_2)
                     (try rw [show ((5 : Int)).toNat = 5 from rfl] at hx186_3)
                     (try rw [show 5 * 5 = 25 from rfl] at hx186_3)
                     (try rw [show ((5 : Int)).toNat = 5 from rfl] at hx186_4)
                     (try rw [show 5 * 5 = 25 from rfl] at hx186_4)
                     replace p186 := eq_true p186
                     replace q186 := eq_true q186
                     go_wp2_with (first | (go_at_call 15; (with_reducible refine (pendulumref06_Mode.calls ((rd_T46 l0 5).f1) t187 _ A52.out).mono ?_); rintro e w' ⟨rfl, ⟨nd, rfl⟩⟩))
                     go_roundg kj2
                     case measure => have := HK1.out; have := HJ2.out; omega
                     case rel => exact ⟨(wrap64 (x5_1 + 1)), (by first | rfl | (simp; done) | (simp [*]; done)), H', ⟨by have := HK1.out; have := HJ2.out; omega⟩, by repeat (first | exact Drawn0.refl _ | apply Drawn0.step)⟩
                   ·rw [if_neg c51] at H
                    exact absurd H (by simp)
                  ·rw [if_neg c50] at H
                   have c50b0 : (x5_1 == 5) = false := beq_eq_false_iff_ne.mpr c50
                   have c50b1 : (x5_1 != 5) = true := bne_iff_ne.mpr c50
                   have H' := Aside0.mk H
                   clear H
                   have p163 : 0 ≤ (x5_1 : Int) := of_decide_eq_true (by first | (with_reducible assumption) | assumption)
                   have q163 : x5_1 < (l0.length : Int) := of_decide_eq_true (by first | (with_reducible assumption) | assumption)
                   obtain ⟨ad163, e163, hx163_0, hx163_1, hx163_2, hx163_3, hx163_4⟩ := at_T46 HR0.out x5_1 p163 q163
                   cases e163
                   replace p163 := eq_true p163
                   replace q163 := eq_true q163
                   have p181 : 0 ≤ (x5_1 : Int) := of_decide_eq_true (by first | (with_reducible assumption) | assumption)
                   have q181 : x5_1 < (l1.length : Int) := of_decide_eq_true (by first | (with_reducible assumption) | assumption)
                   obtain ⟨ad181, e181, hx181_0⟩ := Kd.at_int HR1.out x5_1 p181 q181
                   cases e181
                   replace p181 := eq_true p181
                   replace q181 := eq_true q181
                   have p182 : 0 ≤ (1 : Int) := (by omega)
                   have q182 : 1 < (l1.length : Int) := of_decide_eq_true (by first | (with_reducible assumption) | assumption)
                   obtain ⟨ad182, e182, hx182_0⟩ := Kd.at_int HR1.out 1 p182 q182
                   obtain rfl : ad181 = ad182 := (by injection e182)
                   (try simp only [show (1 : Int).toNat = 1 from rfl, Nat.reduceMul, Nat.reduceEqDiff, Go.Addr.add, ↓reduceIte] at hx182_0)
                   have qi182 : (1 < l1.length) = True := eq_true (by omega)
                   (try rw [show ((1 : Int)).toNat = 1 from rfl] at hx182_0)
                   replace p182 := eq_true p182
                   replace q182 := eq_true q182
                   have p183 : 0 ≤ (0 : Int) := (by omega)
                   have q183 : 0 < (l0.length : Int) := of_decide_eq_true (by first | (with_reducible assumption) | assumption)
                   obtain ⟨ad183, e183, hx183_0, hx183_1, hx183_2, hx183_3, hx183_4⟩ := at_T46 HR0.out 0 p183 q183
                   obtain rfl : ad163 = ad183 := (by injection e183)
                   have qi183 : (0 < l0.length) = True := eq_true (by omega)
                   (try rw [show ((0 : Int)).toNat = 0 from rfl] at hx183_0)
                   (try rw [show 0 * 5 = 0 from rfl] at hx183_0)
                   (try rw [Addr.add_zero'] at hx183_0)
                   (try rw [show ((0 : Int)).toNat = 0 from rfl] at hx183_1)
                   (try rw [show 0 * 5 = 0 from rfl] at hx183_1)
                   (try rw [Addr.add_zero'] at hx183_1)
                   (try rw [show ((0 : Int)).toNat = 0 from rfl] at hx183_2)
                   (try rw [show 0 * 5 = 0 from rfl] at hx183_2)
                   (try rw [Addr.add_zero'] at hx183_2)
                   (try rw [show ((0 : Int)).toNat = 0 from rfl] at hx183_3)
                   (try rw [show 0 * 5 = 0 from rfl] at hx183_3)
                   (try rw [Addr.add_zero'] at hx183_3)
                   (try rw [show ((0 : Int)).toNat = 0 from rfl] at hx183_4)
                   (try rw [show 0 * 5 = 0 from rfl] at hx183_4)
                   (try rw [Addr.add_zero'] at hx183_4)
                   replace p183 := eq_true p183
                   replace q183 := eq_true q183
                   have p184 : 0 ≤ (1 : Int) := (by omega)
                   have q184 : 1 < (l1.length : Int) := of_decide_eq_true (by first | (with_reducible assumption) | assumption)
                   obtain ⟨ad184, e184, hx184_0⟩ := Kd.at_int HR1.out 1 p184 q184
                   obtain rfl : ad181 = ad184 := (by injection e184)
                   (try simp only [show (1 : Int).toNat = 1 from rfl, Nat.reduceMul, Nat.reduceEqDiff, Go.Addr.add, ↓reduceIte] at hx184_0)
                   have qi184 : (1 < l1.length) = True := eq_true (by omega)
                   (try rw [show ((1 : Int)).toNat = 1 from rfl] at hx184_0)
                   replace p184 := eq_true p184
                   replace q184 := eq_true q184
                   have p185 : 0 ≤ (0 : Int) := (by omega)
                   have q185 : 0 < (l0.length : Int) := of_decide_eq_true (by first | (with_reducible assumption) | assumption)
                   obtain ⟨ad185, e185, hx185_0, hx185_1, hx185_2, hx185_3, hx185_4⟩ := at_T46 HR0.out 0 p185 q185
                   obtain rfl : ad163 = ad185 := (by injection e185)
                   have qi185 : (0 < l0.length) = True := eq_true (by omega)
                   (try rw [show ((0 : Int)).toNat = 0 from rfl] at hx185_0)
                   (try rw [show 0 * 5 = 0 from rfl] at hx185_0)
                   (try rw [Addr.add_zero'] at hx185_0)
                   (try rw [show ((0 : Int)).toNat = 0 from rfl] at hx185_1)
                   (try rw [show 0 * 5 = 0 from rfl] at hx185_1)
                   (try rw [Addr.add_zero'] at hx185_1)
                   (try rw [show ((0 : Int)).toNat = 0 from rfl] at hx185_2)
                   (try rw [show 0 * 5 = 0 from rfl] at hx185_2)
                   (try rw [Addr.add_zero'] at hx185_2)
                   (try rw [show ((0 : Int)).toNat = 0 from rfl] at hx185_3)
                   (try rw [show 0 * 5 = 0 from rfl] at hx185_3)
                   (try rw [Addr.add_zero'] at hx185_3)
                   (try rw [show ((0 : Int)).toNat = 0 from rfl] at hx185_4)
                   (try rw [show 0 * 5 = 0 from rfl] at hx185_4)
                   (try rw [Addr.add_zero'] at hx185_4)
                   replace p185 := eq_true p185
                   replace q185 := eq_true q185
                   go_wp2
                   go_roundg kj2
                   case measure => have := HK1.out; have := HJ2.out; omega
                   case rel => exact ⟨(wrap64 (x5_1 + 1)), (by first | rfl | (simp; done) | (simp [*]; done)), H', ⟨by have := HK1.out; have := HJ2.out; omega⟩, by repeat (first | exact Drawn0.refl _ | apply Drawn0.step)⟩
                 ·rw [if_neg c49] at H
                  have c49b0 : (((rd_T46 l0 0).f1).toList == ([116, 97, 115, 107] : List UInt8)) = false := beq_eq_false_iff_ne.mpr c49
                  have c49b1 : (((rd_T46 l0 0).f1).toList != ([116, 97, 115, 107] : List UInt8)) = true := bne_iff_ne.mpr c49
                  obtain rfl := Option.some.inj H
                  have p163 : 0 ≤ (x5_1 : Int) := of_decide_eq_true (by first | (with_reducible assumption) | assumption)
                  have q163 : x5_1 < (l0.length : Int) := of_decide_eq_true (by first | (with_reducible assumption) | assumption)
                  obtain ⟨ad163, e163, hx163_0, hx163_1, hx163_2, hx163_3, hx163_4⟩ := at_T46 HR0.out x5_1 p163 q163
                  cases e163
                  replace p163 := eq_true p163
                  replace q163 := eq_true q163
                  have p181 : 0 ≤ (x5_1 : Int) := of_decide_eq_true (by first | (with_reducible assumption) | assumption)
                  have q181 : x5_1 < (l1.length : Int) := of_decide_eq_true (by first | (with_reducible assumption) | assumption)
                  obtain ⟨ad181, e181, hx181_0⟩ := Kd.at_int HR1.out x5_1 p181 q181
                  cases e181
                  replace p181 := eq_true p181
                  replace q181 := eq_true q181
                  have p182 : 0 ≤ (1 : Int) := (by omega)
                  have q182 : 1 < (l1.length : Int) := of_decide_eq_true (by first | (with_reducible assumption) | assumption)
                  obtain ⟨ad182, e182, hx182_0⟩ := Kd.at_int HR1.out 1 p182 q182
                  obtain rfl : ad181 = ad182 := (by injection e182)
                  (try simp only [show (1 : Int).toNat = 1 from rfl, Nat.reduceMul, Nat.reduceEqDiff, Go.Addr.add, ↓reduceIte] at hx182_0)
                  have qi182 : (1 < l1.length) = True := eq_true (by omega)
                  (try rw [show ((1 : Int)).toNat = 1 from rfl] at hx182_0)
                  replace p182 := eq_true p182
                  replace q182 := eq_true q182
                  have p183 : 0 ≤ (0 : Int) := (by omega)
                  have q183 : 0 < (l0.length : Int) := of_decide_eq_true (by first | (with_reducible assumption) | assumption)
                  obtain ⟨ad183, e183, hx183_0, hx183_1, hx183_2, hx183_3, hx183_4⟩ := at_T46 HR0.out 0 p183 q183
                  obtain rfl : ad163 = ad183 := (by injection e183)
                  have qi183 : (0 < l0.length) = True := eq_true (by omega)
                  (try rw [show ((0 : Int)).toNat = 0 from rfl] at hx183_0)
                  (try rw [show 0 * 5 = 0 from rfl] at hx183_0)
                  (try rw [Addr.add_zero'] at hx183_0)
                  (try rw [show ((0 : Int)).toNat = 0 from rfl] at hx183_1)
                  (try rw [show 0 * 5 = 0 from rfl] at hx183_1)
                  (try rw [Addr.add_zero'] at hx183_1)
                  (try rw [show ((0 : Int)).toNat = 0 from rfl] at hx183_2)
                  (try rw [show 0 * 5 = 0 from rfl] at hx183_2)
                  (try rw [Addr.add_zero'] at hx183_2)
                  (try rw [show ((0 : Int)).toNat = 0 from rfl] at hx183_3)
                  (try rw [show 0 * 5 = 0 from rfl] at hx183_3)
                  (try rw [Addr.add_zero'] at hx183_3)
                  (try rw [show ((0 : Int)).toNat = 0 from rfl] at hx183_4)
                  (try rw [show 0 * 5 = 0 from rfl] at hx183_4)
                  (try rw [Addr.add_zero'] at hx183_4)
                  replace p183 := eq_true p183
                  replace q183 := eq_true q183
                  have p184 : 0 ≤ (1 : Int) := (by omega)
                  have q184 : 1 < (l1.length : Int) := of_decide_eq_true (by first | (with_reducible assumption) | assumption)
                  obtain ⟨ad184, e184, hx184_0⟩ := Kd.at_int HR1.out 1 p184 q184
                  obtain rfl : ad181 = ad184 := (by injection e184)
                  (try simp only [show (1 : Int).toNat = 1 from rfl, Nat.reduceMul, Nat.reduceEqDiff, Go.Addr.add, ↓reduceIte] at hx184_0)
                  have qi184 : (1 < l1.length) = True := eq_true (by omega)
                  (try rw [show ((1 : Int)).toNat = 1 from rfl] at hx184_0)
                  replace p184 := eq_true p184
                  replace q184 := eq_true q184
                  have p185 : 0 ≤ (0 : Int) := (by omega)
                  have q185 : 0 < (l0.length : Int) := of_decide_eq_true (by first | (with_reducible assumption) | assumption)
                  obtain ⟨ad185, e185, hx185_0, hx185_1, hx185_2, hx185_3, hx185_4⟩ := at_T46 HR0.out 0 p185 q185
                  obtain rfl : ad163 = ad185 := (by injection e185)
                  have qi185 : (0 < l0.length) = True := eq_true (by omega)
                  (try rw [show ((0 : Int)).toNat = 0 from rfl] at hx185_0)
                  (try rw [show 0 * 5 = 0 from rfl] at hx185_0)
                  (try rw [Addr.add_zero'] at hx185_0)
                  (try rw [show ((0 : Int)).toNat = 0 from rfl] at hx185_1)
                  (try rw [show 0 * 5 = 0 from rfl] at hx185_1)
                  (try rw [Addr.add_zero'] at hx185_1)
                  (try rw [show ((0 : Int)).toNat = 0 from rfl] at hx185_2)
                  (try rw [show 0 * 5 = 0 from rfl] at hx185_2)
                  (try rw [Addr.add_zero'] at hx185_2)
                  (try rw [show ((0 : Int)).toNat = 0 from rfl] at hx185_3)
                  (try rw [show 0 * 5 = 0 from rfl] at hx185_3)
                  (try rw [Addr.add_zero'] at hx185_3)
                  (try rw [show ((0 : Int)).toNat = 0 from rfl] at hx185_4)
                  (try rw [show 0 * 5 = 0 from rfl] at hx185_4)
                  (try rw [Addr.add_zero'] at hx185_4)
                  replace p185 := eq_true p185
                  replace q185 := eq_true q185
                  go_wp2
                  go_ret
                  exact ⟨by first | rfl | (simp; done) | (simp [*]; done), by repeat (first | exact Drawn0.refl _ | apply Drawn0.step)⟩
                ·rw [if_neg c48] at H
                 have c48b0 : ((rd l1 1) == 1) = false := beq_eq_false_iff_ne.mpr c48
                 have c48b1 : ((rd l1 1) != 1) = true := bne_iff_ne.mpr c48
                 by_cases c54 : x5_1 = 5
                 ·rw [if_pos c54] at H
                  have c54b0 : (x5_1 == 5) = true := beq_iff_eq.mpr c54
                  have c54b1 : (x5_1 != 5) = false := bne_eq_false_iff_eq.mpr c54
                  clear c54
                  by_cases c55 : 5 < (l0.length : Int)
                  ·rw [if_pos c55] at H
                   have c55b0 : decide (5 < (l0.length : Int)) = true := decide_eq_true c55
                   have c55b1 : decide (5 < l0.length) = true := decide_eq_true (by omega)
                   clear c55
                   replace H := Option.bind_eq_some_iff.mp H
                   obtain ⟨t189, A560, H⟩ := H
                   replace H : (if t189 = 0 then (some x5_1) else (pendulumref06_shape.l0 kj2 l0 l1 (wrap64 (x5_1 + 1)))) = some r := H
                   have A56 := Aside0.mk A560
                   clear A560
                   by_cases c57 : t189 = 0
                   ·rw [if_pos c57] at H
                    have c57b0 : (t189 == 0) = true := beq_iff_eq.mpr c57
                    have c57b1 : (t189 != 0) = false := bne_eq_false_iff_eq.mpr c57
                    clear c57
                    obtain rfl := Option.some.inj H
                    have p163 : 0 ≤ (x5_1 : Int) := of_decide_eq_true (by first | (with_reducible assumption) | assumption)
                    have q163 : x5_1 < (l0.length : Int) := of_decide_eq_true (by first | (with_reducible assumption) | assumption)
                    obtain ⟨ad163, e163, hx163_0, hx163_1, hx163_2, hx163_3, hx163_4⟩ := at_T46 HR0.out x5_1 p163 q163
                    cases e163
                    replace p163 := eq_true p163
                    replace q163 := eq_true q163
                    have p181 : 0 ≤ (x5_1 : Int) := of_decide_eq_true (by first | (with_reducible assumption) | assumption)
                    have q181 : x5_1 < (l1.length : Int) := of_decide_eq_true (by first | (with_reducible assumption) | assumption)
                    obtain ⟨ad181, e181, hx181_0⟩ := Kd.at_int HR1.out x5_1 p181 q181
                    cases e181
                    replace p181 := eq_true p181
                    replace q181 := eq_true q181
                    have p182 : 0 ≤ (1 : Int) := (by omega)
                    have q182 : 1 < (l1.length : Int) := of_decide_eq_true (by first | (with_reducible assumption) | assumption)
                    obtain ⟨ad182, e182, hx182_0⟩ := Kd.at_int HR1.out 1 p182 q182
                    obtain rfl : ad181 = ad182 := (by injection e182)
                    (try simp only [show (1 : Int).toNat = 1 from rfl, Nat.reduceMul, Nat.reduceEqDiff, Go.Addr.add, ↓reduceIte] at hx182_0)
                    have qi182 : (1 < l1.length) = True := eq_true (by omega)
                    (try rw [show ((1 : Int)).toNat = 1 from rfl] at hx182_0)
                    replace p182 := eq_true p182
                    replace q182 := eq_true q182
                    have p183 : 0 ≤ (0 : Int) := (by omega)
                    have q183 : 0 < (l0.length : Int) := of_decide_eq_true (by first | (with_reducible assumption) | assumption)
                    obtain ⟨ad183, e183, hx183_0, hx183_1, hx183_2, hx183_3, hx183_4⟩ := at_T46 HR0.out 0 p183 q183
                    obtain rfl : ad163 = ad183 := (by injection e183)
                    have qi183 : (0 < l0.length) = True := eq_true (by omega)
                    (try rw [show ((0 : Int)).toNat = 0 from rfl] at hx183_0)
                    (try rw [show 0 * 5 = 0 from rfl] at hx183_0)
                    (try rw [Addr.add_zero'] at hx183_0)
                    (try rw [show ((0 : Int)).toNat = 0 from rfl] at hx183_1)
                    (try rw [show 0 * 5 = 0 from rfl] at hx183_1)
                    (try rw [Addr.add_zero'] at hx183_1)
                    (try rw [show ((0 : Int)).toNat = 0 from rfl] at hx183_2)
                    (try rw [show 0 * 5 = 0 from rfl] at hx183_2)
                    (try rw [Addr.add_zero'] at hx183_2)
                    (try rw [show ((0 : Int)).toNat = 0 from rfl] at hx183_3)
                    (try rw [show 0 * 5 = 0 from rfl] at hx183_3)
                    (try rw [Addr.add_zero'] at hx183_3)
                    (try rw [show ((0 : Int)).toNat = 0 from rfl] at hx183_4)
                    (try rw [show 0 * 5 = 0 from rfl] at hx183_4)
                    (try rw [Addr.add_zero'] at hx183_4)
                    replace p183 := eq_true p183
                    replace q183 := eq_true q183
                    have p184 : 0 ≤ (1 : Int) := (by omega)
                    have q184 : 1 < (l1.length : Int) := of_decide_eq_true (by first | (with_reducible assumption) | assumption)
                    obtain ⟨ad184, e184, hx184_0⟩ := Kd.at_int HR1.out 1 p184 q184
                    obtain rfl : ad181 = ad184 := (by injection e184)
                    (try simp only [show (1 : Int).toNat = 1 from rfl, Nat.reduceMul, Nat.reduceEqDiff, Go.Addr.add, ↓reduceIte] at hx184_0)
                    have qi184 : (1 < l1.length) = True := eq_true (by omega)
                    (try rw [show ((1 : Int)).toNat = 1 from rfl] at hx184_0)
                    replace p184 := eq_true p184
                    replace q184 := eq_true q184
                    have p188 : 0 ≤ (5 : Int) := (by omega)
                    have q188 : 5 < (l0.length : Int) := of_decide_eq_true (by first | (with_reducible assumption) | assumption)
                    obtain ⟨ad188, e188, hx188_0, hx188_1, hx188_2, hx188_3, hx188_4⟩ := at_T46 HR0.out 5 p188 q188
                    obtain rfl : ad163 = ad188 := (by injection e188)
                    (try simp only [show (5 : Int).toNat = 5 from rfl, Nat.reduceMul, Nat.reduceEqDiff, Go.Addr.add, ↓reduceIte] at hx188_0)
                    (try simp only [show (5 : Int).toNat = 5 from rfl, Nat.reduceMul, Nat.reduceEqDiff, Go.Addr.add, ↓reduceIte] at hx188_1)
                    (try simp only [show (5 : Int).toNat = 5 from rfl, Nat.reduceMul, Nat.reduceEqDiff, Go.Addr.add, ↓reduceIte] at hx188_2)
                    (try simp only [show (5 : Int).toNat = 5 from rfl, Nat.reduceMul, Nat.reduceEqDiff, Go.Addr.add, ↓reduceIte] at hx188_3)
                    (try simp only [show (5 : Int).toNat = 5 from rfl, Nat.reduceMul, Nat.reduceEqDiff, Go.Addr.add, ↓reduceIte] at hx188_4)
                    have qi188 : (5 < l0.length) = True := eq_true (by omega)
                    (try rw [show ((5 : Int)).toNat = 5 from rfl] at hx188_0)
                    (try rw [show 5 * 5 = 25 from rfl] at hx188_0)
                    (try rw [show ((5 : Int)).toNat = 5 from rfl] at hx188_1)
                    (try rw [show 5 * 5 = 25 from rfl] at hx188_1)
                    (try rw [show ((5 : Int)).toNat = 5 from rfl] at hx188_2)
                    (try rw [show 5 * 5 = 25 from rfl] at hx188_2)
                    (try rw [show ((5 : Int)).toNat = 5 from rfl] at hx188_3)
                    (try rw [show 5 * 5 = 25 from rfl] at hx188_3)
                    (try rw [show ((5 : Int)).toNat = 5 from rfl] at hx188_4)
                    (try rw [show 5 * 5 = 25 from rfl] at hx188_4)
                    replace p188 := eq_true p188
                    replace q188 := eq_true q188
                    go_wp2_with (first | (go_at_call 15; (with_reducible refine (pendulumref06_Mode.calls ((rd_T46 l0 5).f1) t189 _ A56.out).mono ?_); rintro e w' ⟨rfl, ⟨nd, rfl⟩⟩))
                    go_ret
                    exact ⟨by first | rfl | (simp; done) | (simp [*]; done), by repeat (first | exact Drawn0.refl _ | apply Drawn0.step)⟩
                   ·rw [if_neg c57] at H
                    have c57b0 : (t189 == 0) = false := beq_eq_false_iff_ne.mpr c57
                    have c57b1 : (t189 != 0) = true := bne_iff_ne.mpr c57
                    have H' := Aside0.mk H
                    clear H
                    have p163 : 0 ≤ (x5_1 : Int) := of_decide_eq_true (by first | (with_reducible assumption) | assumption)
                    have q163 : x5_1 < (l0.length : Int) := of_decide_eq_true (by first | (with_reducible assumption) | assumption)
                    obtain ⟨ad163, e163, hx163_0, hx163_1, hx163_2, hx163_3, hx163_4⟩ := at_T46 HR0.out x5_1 p163 q163
                    cases e163
                    replace p163 := eq_true p163
                    replace q163 := eq_true q163
                    have p181 : 0 ≤ (x5_1 : Int) := of_decide_eq_true (by first | (with_reducible assumption) | assumption)
                    have q181 : x5_1 < (l1.length : Int) := of_decide_eq_true (by first | (with_reducible assumption) | assumption)
                    obtain ⟨ad181, e181, hx181_0⟩ := Kd.at_int HR1.out x5_1 p181 q181
                    cases e181
                    replace p181 := eq_true p181
                    replace q181 := eq_true q181
                    have p182 : 0 ≤ (1 : Int) := (by omega)
                    have q182 : 1 < (l1.length : Int) := of_decide_eq_true (by first | (with_reducible assumption) | assumption)
                    obtain ⟨ad182, e182, hx182_0⟩ := Kd.at_int HR1.out 1 p182 q182
                    obtain rfl : ad181 = ad182 := (by injection e182)
                    (try simp only [show (1 : Int).toNat = 1 from rfl, Nat.reduceMul, Nat.reduceEqDiff, Go.Addr.add, ↓reduceIte] at hx182_0)
                    have qi182 : (1 < l1.length) = True := eq_true (by omega)
                    (try rw [show ((1 : Int)).toNat = 1 from rfl] at hx182_0)
                    replace p182 := eq_true p182
                    replace q182 := eq_true q182
                    have p183 : 0 ≤ (0 : Int) := (by omega)
                    have q183 : 0 < (l0.length : Int) := of_decide_eq_true (by first | (with_reducible assumption) | assumption)
                    obtain ⟨ad183, e183, hx183_0, hx183_1, hx183_2, hx183_3, hx183_4⟩ := at_T46 HR0.out 0 p183 q183
                    obtain rfl : ad163 = ad183 := (by injection e183)
                    have qi183 : (0 < l0.length) = True := eq_true (by omega)
                    (try rw [show ((0 : Int)).toNat = 0 from rfl] at hx183_0)
                    (try rw [show 0 * 5 = 0 from rfl] at hx183_0)
                    (try rw [Addr.add_zero'] at hx183_0)
                    (try rw [show ((0 : Int)).toNat = 0 from rfl] at hx183_1)
                    (try rw [show 0 * 5 = 0 from rfl] at hx183_1)
                    (try rw [Addr.add_zero'] at hx183_1)
                    (try rw [show ((0 : Int)).toNat = 0 from rfl] at hx183_2)
                    (try rw [show 0 * 5 = 0 from rfl] at hx183_2)
                    (try rw [Addr.add_zero'] at hx183_2)
                    (try rw [show ((0 : Int)).toNat = 0 from rfl] at hx183_3)
                    (try rw [show 0 * 5 = 0 from rfl] at hx183_3)
                    (try rw [Addr.add_zero'] at hx183_3)
                    (try rw [show ((0 : Int)).toNat = 0 from rfl] at hx183_4)
                    (try rw [show 0 * 5 = 0 from rfl] at hx183_4)
                    (try rw [Addr.add_zero'] at hx183_4)
                    replace p183 := eq_true p183
                    replace q183 := eq_true q183
                    have p184 : 0 ≤ (1 : Int) := (by omega)
                    have q184 : 1 < (l1.length : Int) := of_decide_eq_true (by first | (with_reducible assumption) | assumption)
                    obtain ⟨ad184, e184, hx184_0⟩ := Kd.at_int HR1.out 1 p184 q184
                    obtain rfl : ad181 = ad184 := (by injection e184)
                    (try simp only [show (1 : Int).toNat = 1 from rfl, Nat.reduceMul, Nat.reduceEqDiff, Go.Addr.add, ↓reduceIte] at hx184_0)
                    have qi184 : (1 < l1.length) = True := eq_true (by omega)
                    (try rw [show ((1 : Int)).toNat = 1 from rfl] at hx184_0)
                    replace p184 := eq_true p184
                    replace q184 := eq_true q184
                    have p188 : 0 ≤ (5 : Int) := (by omega)
                    have q188 : 5 < (l0.length : Int) := of_decide_eq_true (by first | (with_reducible assumption) | assumption)
                    obtain ⟨ad188, e188, hx188_0, hx188_1, hx188_2, hx188_3, hx188_4⟩ := at_T46 HR0.out 5 p188 q188
                    obtain rfl : ad163 = ad188 := (by injection e188)
                    (try simp only [show (5 : Int).toNat = 5 from rfl, Nat.reduceMul, Nat.reduceEqDiff, Go.Addr.add, ↓reduceIte] at hx188_0)
                    (try simp only [show (5 : Int).toNat = 5 from rfl, Nat.reduceMul, Nat.reduceEqDiff, Go.Addr.add, ↓reduceIte] at hx188_1)
                    (try simp only [show (5 : Int).toNat = 5 from rfl, Nat.reduceMul, Nat.reduceEqDiff, Go.Addr.add, ↓reduceIte] at hx188_2)
                    (try simp only [show (5 : Int).toNat = 5 from rfl, Nat.reduceMul, Nat.reduceEqDiff, Go.Addr.add, ↓reduceIte] at hx188_3)
                    (try simp only [show (5 : Int).toNat = 5 from rfl, Nat.reduceMul, Nat.reduceEqDiff, Go.Addr.add, ↓reduceIte] at hx188_4)
                    have qi188 : (5 < l0.length) = True := eq_true (by omega)
                    (try rw [show ((5 : Int)).toNat = 5 from rfl] at hx188_0)
                    (try rw [show 5 * 5 = 25 from rfl] at hx188_0)
                    (try rw [show ((5 : Int)).toNat = 5 from rfl] at hx188_1)
                    (try rw [show 5 * 5 = 25 from rfl] at hx188_1)
                    (try rw [show ((5 : Int)).toNat = 5 from rfl] at hx188_2)
                    (try rw [show 5 * 5 = 25 from rfl] at hx188_2)
                    (try rw [show ((5 : Int)).toNat = 5 from rfl] at hx188_3)
                    (try rw [show 5 * 5 = 25 from rfl] at hx188_3)
                    (try rw [show ((5 : Int)).toNat = 5 from rfl] at hx188_4)
                    (try rw [show 5 * 5 = 25 from rfl] at hx188_4)
                    replace p188 := eq_true p188
                    replace q188 := eq_true q188
                    go_wp2_with (first | (go_at_call 15; (with_reducible refine (pendulumref06_Mode.calls ((rd_T46 l0 5).f1) t189 _ A56.out).mono ?_); rintro e w' ⟨rfl, ⟨nd, rfl⟩⟩))
                    go_roundg kj2
                    case measure => have := HK1.out; have := HJ2.out; omega
                    case rel => exact ⟨(wrap64 (x5_1 + 1)), (by first | rfl | (simp; done) | (simp [*]; done)), H', ⟨by have := HK1.out; have := HJ2.out; omega⟩, by repeat (first | exact Drawn0.refl _ | apply Drawn0.step)⟩
                  ·rw [if_neg c55] at H
                   exact absurd H (by simp)
                 ·rw [if_neg c54] at H
                  have c54b0 : (x5_1 == 5) = false := beq_eq_false_iff_ne.mpr c54
                  have c54b1 : (x5_1 != 5) = true := bne_iff_ne.mpr c54
                  have H' := Aside0.mk H
                  clear H
                  have p163 : 0 ≤ (x5_1 : Int) := of_decide_eq_true (by first | (with_reducible assumption) | assumption)
                  have q163 : x5_1 < (l0.length : Int) := of_decide_eq_true (by first | (with_reducible assumption) | assumption)
                  obtain ⟨ad163, e163, hx163_0, hx163_1, hx163_2, hx163_3, hx163_4⟩ := at_T46 HR0.out x5_1 p163 q163
                  cases e163
                  replace p163 := eq_true p163
                  replace q163 := eq_true q163
                  have p181 : 0 ≤ (x5_1 : Int) := of_decide_eq_true (by first | (with_reducible assumption) | assumption)
                  have q181 : x5_1 < (l1.length : Int) := of_decide_eq_true (by first | (with_reducible assumption) | assumption)
                  obtain ⟨ad181, e181, hx181_0⟩ := Kd.at_int HR1.out x5_1 p181 q181
                  cases e181
                  replace p181 := eq_true p181
                  replace q181 := eq_true q181
                  have p182 : 0 ≤ (1 : Int) := (by omega)
                  have q182 : 1 < (l1.length : Int) := of_decide_eq_true (by first | (with_reducible assumption) | assumption)
                  obtain ⟨ad182, e182, hx182_0⟩ := Kd.at_int HR1.out 1 p182 q182
                  obtain rfl : ad181 = ad182 := (by injection e182)
                  (try simp only [show (1 : Int).toNat = 1 from rfl, Nat.reduceMul, Nat.reduceEqDiff, Go.Addr.add, ↓reduceIte] at hx182_0)
                  have qi182 : (1 < l1.length) = True := eq_true (by omega)
                  (try rw [show ((1 : Int)).toNat = 1 from rfl] at hx182_0)
                  replace p182 := eq_true p182
                  replace q182 := eq_true q182
                  have p183 : 0 ≤ (0 : Int) := (by omega)
                  have q183 : 0 < (l0.length : Int) := of_decide_eq_true (by first | (with_reducible assumption) | assumption)
                  obtain ⟨ad183, e183, hx183_0, hx183_1, hx183_2, hx183_3, hx183_4⟩ := at_T46 HR0.out 0 p183 q183
                  obtain rfl : ad163 = ad183 := (by injection e183)
                  have qi183 : (0 < l0.length) = True := eq_true (by omega)
                  (try rw [show ((0 : Int)).toNat = 0 from rfl] at hx183_0)
                  (try rw [show 0 * 5 = 0 from rfl] at hx183_0)
                  (try rw [Addr.add_zero'] at hx183_0)
                  (try rw [show ((0 : Int)).toNat = 0 from rfl] at hx183_1)
                  (try rw [show 0 * 5 = 0 from rfl] at hx183_1)
                  (try rw [Addr.add_zero'] at hx183_1)
                  (try rw [show ((0 : Int)).toNat = 0 from rfl] at hx183_2)
                  (try rw [show 0 * 5 = 0 from rfl] at hx183_2)
                  (try rw [Addr.add_zero'] at hx183_2)
                  (try rw [show ((0 : Int)).toNat = 0 from rfl] at hx183_3)
                  (try rw [show 0 * 5 = 0 from rfl] at hx183_3)
                  (try rw [Addr.add_zero'] at hx183_3)
                  (try rw [show ((0 : Int)).toNat = 0 from rfl] at hx183_4)
                  (try rw [show 0 * 5 = 0 from rfl] at hx183_4)
                  (try rw [Addr.add_zero'] at hx183_4)
                  replace p183 := eq_true p183
                  replace q183 := eq_true q183
                  have p184 : 0 ≤ (1 : Int) := (by omega)
                  have q184 : 1 < (l1.length : Int) := of_decide_eq_true (by first | (with_reducible assumption) | assumption)
                  obtain ⟨ad184, e184, hx184_0⟩ := Kd.at_int HR1.out 1 p184 q184
                  obtain rfl : ad181 = ad184 := (by injection e184)
                  (try simp only [show (1 : Int).toNat = 1 from rfl, Nat.reduceMul, Nat.reduceEqDiff, Go.Addr.add, ↓reduceIte] at hx184_0)
                  have qi184 : (1 < l1.length) = True := eq_true (by omega)
                  (try rw [show ((1 : Int)).toNat = 1 from rfl] at hx184_0)
                  replace p184 := eq_true p184
                  replace q184 := eq_true q184
                  go_wp2
                  go_roundg kj2
                  case measure => have := HK1.out; have := HJ2.out; omega
                  case rel => exact ⟨(wrap64 (x5_1 + 1)), (by first | rfl | (simp; done) | (simp [*]; done)), H', ⟨by have := HK1.out; have := HJ2.out; omega⟩, by repeat (first | exact Drawn0.refl _ | apply Drawn0.step)⟩
               ·rw [if_neg c47] at H
                have c47b0 : (((rd_T46 l0 0).f1).toList == ([98, 117, 114, 115, 116] : List UInt8)) = false := beq_eq_false_iff_ne.mpr c47
                have c47b1 : (((rd_T46 l0 0).f1).toList != ([98, 117, 114, 115, 116] : List UInt8)) = true := bne_iff_ne.mpr c47
                obtain rfl := Option.some.inj H
                have p163 : 0 ≤ (x5_1 : Int) := of_decide_eq_true (by first | (with_reducible assumption) | assumption)
                have q163 : x5_1 < (l0.length : Int) := of_decide_eq_true (by first | (with_reducible assumption) | assumption)
                obtain ⟨ad163, e163, hx163_0, hx163_1, hx163_2, hx163_3, hx163_4⟩ := at_T46 HR0.out x5_1 p163 q163
                cases e163
                replace p163 := eq_true p163
                replace q163 := eq_true q163
                have p181 : 0 ≤ (x5_1 : Int) := of_decide_eq_true (by first | (with_reducible assumption) | assumption)
                have q181 : x5_1 < (l1.length : Int) := of_decide_eq_true (by first | (with_reducible assumption) | assumption)
                obtain ⟨ad181, e181, hx181_0⟩ := Kd.at_int HR1.out x5_1 p181 q181
                cases e181
                replace p181 := eq_true p181
                replace q181 := eq_true q181
                have p182 : 0 ≤ (1 : Int) := (by omega)
                have q182 : 1 < (l1.length : Int) := of_decide_eq_true (by first | (with_reducible assumption) | assumption)
                obtain ⟨ad182, e182, hx182_0⟩ := Kd.at_int HR1.out 1 p182 q182
                obtain rfl : ad181 = ad182 := (by injection e182)
                (try simp only [show (1 : Int).toNat = 1 from rfl, Nat.reduceMul, Nat.reduceEqDiff, Go.Addr.add, ↓reduceIte] at hx182_0)
                have qi182 : (1 < l1.length) = True := eq_true (by omega)
                (try rw [show ((1 : Int)).toNat = 1 from rfl] at hx182_0)
                replace p182 := eq_true p182
                replace q182 := eq_true q182
                have p183 : 0 ≤ (0 : Int) := (by omega)
                have q183 : 0 < (l0.length : Int) := of_decide_eq_true (by first | (with_reducible assumption) | assumption)
                obtain ⟨ad183, e183, hx183_0, hx183_1, hx183_2, hx183_3, hx183_4⟩ := at_T46 HR0.out 0 p183 q183
                obtain rfl : ad163 = ad183 := (by injection e183)
                have qi183 : (0 < l0.length) = True := eq_true (by omega)
                (try rw [show ((0 : Int)).toNat = 0 from rfl] at hx183_0)
                (try rw [show 0 * 5 = 0 from rfl] at hx183_0)
                (try rw [Addr.add_zero'] at hx183_0)
                (try rw [show ((0 : Int)).toNat = 0 from rfl] at hx183_1)
                (try rw [show 0 * 5 = 0 from rfl] at hx183_1)
                (try rw [Addr.add_zero'] at hx183_1)
                (try rw [show ((0 : Int)).toNat = 0 from rfl] at hx183_2)
                (try rw [show 0 * 5 = 0 from rfl] at hx183_2)
                (try rw [Addr.add_zero'] at hx183_2)
                (try rw [show ((0 : Int)).toNat = 0 from rfl] at hx183_3)
                (try rw [show 0 * 5 = 0 from rfl] at hx183_3)
                (try rw [Addr.add_zero'] at hx183_3)
                (try rw [show ((0 : Int)).toNat = 0 from rfl] at hx183_4)
                (try rw [show 0 * 5 = 0 from rfl] at hx183_4)
                (try rw [Addr.add_zero'] at hx183_4)
                replace p183 := eq_true p183
                replace q183 := eq_true q183
                go_wp2
                go_ret
                exact ⟨by first | rfl | (simp; done) | (simp [*]; done), by repeat (first | exact Drawn0.refl _ | apply Drawn0.step)⟩
              ·rw [if_neg c46] at H
               exact absurd H (by simp)
             ·rw [if_neg c45] at H
              have c45b0 : ((rd l1 1) == 2) = false := beq_eq_false_iff_ne.mpr c45
              have c45b1 : ((rd l1 1) != 2) = true := bne_iff_ne.mpr c45
              by_cases c58 : (rd l1 1) = 1
              ·rw [if_pos c58] at H
               have c58b0 : ((rd l1 1) == 1) = true := beq_iff_eq.mpr c58
               have c58b1 : ((rd l1 1) != 1) = false := bne_eq_false_iff_eq.mpr c58
               clear c58
               by_cases c59 : 0 < (l0.length : Int)
               ·rw [if_pos c59] at H
                have c59b0 : decide (0 < (l0.length : Int)) = true := decide_eq_true c59
                have c59b1 : decide (0 < l0.length) = true := decide_eq_true (by omega)
                clear c59
                by_cases c60 : ((rd_T46 l0 0).f1).toList = ([116, 97, 115, 107] : List UInt8)
                ·rw [if_pos c60] at H
                 have c60b0 : (((rd_T46 l0 0).f1).toList == ([116, 97, 115, 107] : List UInt8)) = true := beq_iff_eq.mpr c60
                 have c60b1 : (((rd_T46 l0 0).f1).toList != ([116, 97, 115, 107] : List UInt8)) = false := bne_eq_false_iff_eq.mpr c60
                 clear c60
                 by_cases c61 : x5_1 = 5
                 ·rw [if_pos c61] at H
                  have c61b0 : (x5_1 == 5) = true := beq_iff_eq.mpr c61
                  have c61b1 : (x5_1 != 5) = false := bne_eq_false_iff_eq.mpr c61
                  clear c61
                  by_cases c62 : 5 < (l0.length : Int)
                  ·rw [if_pos c62] at H
                   have c62b0 : decide (5 < (l0.length : Int)) = true := decide_eq_true c62
                   have c62b1 : decide (5 < l0.length) = true := decide_eq_true (by omega)
                   clear c62
                   replace H := Option.bind_eq_some_iff.mp H
                   obtain ⟨t193, A630, H⟩ := H
                   replace H : (if t193 = 0 then (some x5_1) else (pendulumref06_shape.l0 kj2 l0 l1 (wrap64 (x5_1 + 1)))) = some r := H
                   have A63 := Aside0.mk A630
                   clear A630
                   by_cases c64 : t193 = 0
                   ·rw [if_pos c64] at H
                    have c64b0 : (t193 == 0) = true := beq_iff_eq.mpr c64
                    have c64b1 : (t193 != 0) = false := bne_eq_false_iff_eq.mpr c64
                    clear c64
                    obtain rfl := Option.some.inj H
                    have p163 : 0 ≤ (x5_1 : Int) := of_decide_eq_true (by first | (with_reducible assumption) | assumption)
                    have q163 : x5_1 < (l0.length : Int) := of_decide_eq_true (by first | (with_reducible assumption) | assumption)
                    obtain ⟨ad163, e163, hx163_0, hx163_1, hx163_2, hx163_3, hx163_4⟩ := at_T46 HR0.out x5_1 p163 q163
                    cases e163
                    replace p163 := eq_true p163
                    replace q163 := eq_true q163
                    have p181 : 0 ≤ (x5_1 : Int) := of_decide_eq_true (by first | (with_reducible assumption) | assumption)
                    have q181 : x5_1 < (l1.length : Int) := of_decide_eq_true (by first | (with_reducible assumption) | assumption)
                    obtain ⟨ad181, e181, hx181_0⟩ := Kd.at_int HR1.out x5_1 p181 q181
                    cases e181
                    replace p181 := eq_true p181
                    replace q181 := eq_true q181
                    have p182 : 0 ≤ (1 : Int) := (by omega)
                    have q182 : 1 < (l1.length : Int) := of_decide_eq_true (by first | (with_reducible assumption) | assumption)
                    obtain ⟨ad182, e182, hx182_0⟩ := Kd.at_int HR1.out 1 p182 q182
                    obtain rfl : ad181 = ad182 := (by injection e182)
                    (try simp only [show (1 : Int).toNat = 1 from rfl, Nat.reduceMul, Nat.reduceEqDiff, Go.Addr.add, ↓reduceIte] at hx182_0)
                    have qi182 : (1 < l1.length) = True := eq_true (by omega)
                    (try rw [show ((1 : Int)).toNat = 1 from rfl] at hx182_0)
                    replace p182 := eq_true p182
                    replace q182 := eq_true q182
                    have p190 : 0 ≤ (1 : Int) := (by omega)
                    have q190 : 1 < (l1.length : Int) := of_decide_eq_true (by first | (with_reducible assumption) | assumption)
                    obtain ⟨ad190, e190, hx190_0⟩ := Kd.at_int HR1.out 1 p190 q190
                    obtain rfl : ad181 = ad190 := (by injection e190)
                    (try simp only [show (1 : Int).toNat = 1 from rfl, Nat.reduceMul, Nat.reduceEqDiff, Go.Addr.add, ↓reduceIte] at hx190_0)
                    have qi190 : (1 < l1.length) = True := eq_true (by omega)
                    (try rw [show ((1 : Int)).toNat = 1 from rfl] at hx190_0)
                    replace p190 := eq_true p190
                    replace q190 := eq_true q190
                    have p191 : 0 ≤ (0 : Int) := (by omega)
                    have q191 : 0 < (l0.length : Int) := of_decide_eq_true (by first | (with_reducible assumption) | assumption)
                    obtain ⟨ad191, e191, hx191_0, hx191_1, hx191_2, hx191_3, hx191_4⟩ := at_T46 HR0.out 0 p191 q191
                    obtain rfl : ad163 = ad191 := (by injection e191)
                    have qi191 : (0 < l0.length) = True := eq_true (by omega)
                    (try rw [show ((0 : Int)).toNat = 0 from rfl] at hx191_0)
                    (try rw [show 0 * 5 = 0 from rfl] at hx191_0)
                    (try rw [Addr.add_zero'] at hx191_0)
                    (try rw [show ((0 : Int)).toNat = 0 from rfl] at hx191_1)
                    (try rw [show 0 * 5 = 0 from rfl] at hx191_1)
                    (try rw [Addr.add_zero'] at hx191_1)
                    (try rw [show ((0 : Int)).toNat = 0 from rfl] at hx191_2)
                    (try rw [show 0 * 5 = 0 from rfl] at hx191_2)
                    (try rw [Addr.add_zero'] at hx191_2)
                    (try rw [show ((0 : Int)).toNat = 0 from rfl] at hx191_3)
                    (try rw [show 0 * 5 = 0 from rfl] at hx191_3)
                    (try rw [Addr.add_zero'] at hx191_3)
                    (try rw [show ((0 : Int)).toNat = 0 from rfl] at hx191_4)
                    (try rw [show 0 * 5 = 0 from rfl] at hx191_4)
                    (try rw [Addr.add_zero'] at hx191_4)
                    replace p191 := eq_true p191
                    replace q191 := eq_true q191
                    have p192 : 0 ≤ (5 : Int) := (by omega)
                    have q192 : 5 < (l0.length : Int) := of_decide_eq_true (by first | (with_reducible assumption) | assumption)
                    obtain ⟨ad192, e192, hx192_0, hx192_1, hx192_2, hx192_3, hx192_4⟩ := at_T46 HR0.out 5 p192 q192
                    obtain rfl : ad163 = ad192 := (by injection e192)
                    (try simp only [show (5 : Int).toNat = 5 from rfl, Nat.reduceMul, Nat.reduceEqDiff, Go.Addr.add, ↓reduceIte] at hx192_0)
                    (try simp only [show (5 : Int).toNat = 5 from rfl, Nat.reduceMul, Nat.reduceEqDiff, Go.Addr.add, ↓reduceIte] at hx192_1)
                    (try simp only [show (5 : Int).toNat = 5 from rfl, Nat.reduceMul, Nat.reduceEqDiff, Go.Addr.add, ↓reduceIte] at hx192_2)
                    (try simp only [show (5 : Int).toNat = 5 from rfl, Nat.reduceMul, Nat.reduceEqDiff, Go.Addr.add, ↓reduceIte] at hx192_3)
                    (try simp only [show (5 : Int).toNat = 5 from rfl, Nat.reduceMul, Nat.reduceEqDiff, Go.Addr.add, ↓reduceIte] at hx192_4)
                    have qi192 : (5 < l0.length) = True := eq_true (by omega)
                    (try rw [show ((5 : Int)).toNat = 5 from rfl] at hx192_0)
                    (try rw [show 5 * 5 = 25 from rfl] at hx192_0)
                    (try rw [show ((5 : Int)).toNat = 5 from rfl] at hx192_1)
                    (try rw [show 5 * 5 = 25 from rfl] at hx192_1)
                    (try rw [show ((5 : Int)).toNat = 5 from rfl] at hx192_2)
                    (try rw [show 5 * 5 = 25 from rfl] at hx192_2)
                    (try rw [show ((5 : Int)).toNat = 5 from rfl] at hx192_3)
                    (try rw [show 5 * 5 = 25 from rfl] at hx192_3)
                    (try rw [show ((5 : Int)).toNat = 5 from rfl] at hx192_4)
                    (try rw [show 5 * 5 = 25 from rfl] at hx192_4)
                    replace p192 := eq_true p192
                    replace q192 := eq_true q192
                    go_wp2_with (first | (go_at_call 15; (with_reducible refine (pendulumref06_Mode.calls ((rd_T46 l0 5).f1) t193 _ A63.out).mono ?_); rintro e w' ⟨rfl, ⟨nd, rfl⟩⟩))
                    go_ret
                    exact ⟨by first | rfl | (simp; done) | (simp [*]; done), by repeat (first | exact Drawn0.refl _ | apply Drawn0.step)⟩
                   ·rw [if_neg c64] at H
                    have c64b0 : (t193 == 0) = false := beq_eq_false_iff_ne.mpr c64
                    have c64b1 : (t193 != 0) = true := bne_iff_ne.mpr c64
                    have H' := Aside0.mk H
                    clear H
                    have p163 : 0 ≤ (x5_1 : Int) := of_decide_eq_true (by first | (with_reducible assumption) | assumption)
                    have q163 : x5_1 < (l0.length : Int) := of_decide_eq_true (by first | (with_reducible assumption) | assumption)
                    obtain ⟨ad163, e163, hx163_0, hx163_1, hx163_2, hx163_3, hx163_4⟩ := at_T46 HR0.out x5_1 p163 q163
                    cases e163
                    replace p163 := eq_true p163
                    replace q163 := eq_true q163
                    have p181 : 0 ≤ (x5_1 : Int) := of_decide_eq_true (by first | (with_reducible assumption) | assumption)
                    have q181 : x5_1 < (l1.length : Int) := of_decide_eq_true (by first | (with_reducible assumption) | assumption)
                    obtain ⟨ad181, e181, hx181_0⟩ := Kd.at_int HR1.out x5_1 p181 q181
                    cases e181
                    replace p181 := eq_true p181
                    replace q181 := eq_true q181
                    have p182 : 0 ≤ (1 : Int) := (by omega)
                    have q182 : 1 < (l1.length : Int) := of_decide_eq_true (by first | (with_reducible assumption) | assumption)
                    obtain ⟨ad182, e182, hx182_0⟩ := Kd.at_int HR1.out 1 p182 q182
                    obtain rfl : ad181 = ad182 := (by injection e182)
                    (try simp only [show (1 : Int).toNat = 1 from rfl, Nat.reduceMul, Nat.reduceEqDiff, Go.Addr.add, ↓reduceIte] at hx182_0)
                    have qi182 : (1 < l1.length) = True := eq_true (by omega)
                    (try rw [show ((1 : Int)).toNat = 1 from rfl] at hx182_0)
                    replace p182 := eq_true p182
                    replace q182 := eq_true q182
                    have p190 : 0 ≤ (1 : Int) := (by omega)
                    have q190 : 1 < (l1.length : Int) := of_decide_eq_true (by first | (with_reducible assumption) | assumption)
                    obtain ⟨ad190, e190, hx190_0⟩ := Kd.at_int HR1.out 1 p190 q190
                    obtain rfl : ad181 = ad190 := (by injection e190)
                    (try simp only [show (1 : Int).toNat = 1 from rfl, Nat.reduceMul, Nat.reduceEqDiff, Go.Addr.add, ↓reduceIte] at hx190_0)
                    have qi190 : (1 < l1.length) = True := eq_true (by omega)
                    (try rw [show ((1 : Int)).toNat = 1 from rfl] at hx190_0)
                    replace p190 := eq_true p190
                    replace q190 := eq_true q190
                    have p191 : 0 ≤ (0 : Int) := (by omega)
                    have q191 : 0 < (l0.length : Int) := of_decide_eq_true (by first | (with_reducible assumption) | assumption)
                    obtain ⟨ad191, e191, hx191_0, hx191_1, hx191_2, hx191_3, hx191_4⟩ := at_T46 HR0.out 0 p191 q191
                    obtain rfl : ad163 = ad191 := (by injection e191)
                    have qi191 : (0 < l0.length) = True := eq_true (by omega)
                    (try rw [show ((0 : Int)).toNat = 0 from rfl] at hx191_0)
                    (try rw [show 0 * 5 = 0 from rfl] at hx191_0)
                    (try rw [Addr.add_zero'] at hx191_0)
                    (try rw [show ((0 : Int)).toNat = 0 from rfl] at hx191_1)
                    (try rw [show 0 * 5 = 0 from rfl] at hx191_1)
                    (try rw [Addr.add_zero'] at hx191_1)
                    (try rw [show ((0 : Int)).toNat = 0 from rfl] at hx191_2)
                    (try rw [show 0 * 5 = 0 from rfl] at hx191_2)
                    (try rw [Addr.add_zero'] at hx191_2)
                    (try rw [show ((0 : Int)).toNat = 0 from rfl] at hx191_3)
                    (try rw [show 0 * 5 = 0 from rfl] at hx191_3)
                    (try rw [Addr.add_zero'] at hx191_3)
                    (try rw [show ((0 : Int)).toNat = 0 from rfl] at hx191_4)
                    (try rw [show 0 * 5 = 0 from rfl] at hx191_4)
                    (try rw [Addr.add_zero'] at hx191_4)
                    replace p191 := eq_true p191
                    replace q191 := eq_true q191
                    have p192 : 0 ≤ (5 : Int) := (by omega)
                    have q192 : 5 < (l0.length : Int) := of_decide_eq_true (by first | (with_reducible assumption) | assumption)
                    obtain ⟨ad192, e192, hx192_0, hx192_1, hx192_2, hx192_3, hx192_4⟩ := at_T46 HR0.out 5 p192 q192
                    obtain rfl : ad163 = ad192 := (by injection e192)
                    (try simp only [show (5 : Int).toNat = 5 from rfl, Nat.reduceMul, Nat.reduceEqDiff, Go.Addr.add, ↓reduceIte] at hx192_0)
                    (try simp only [show (5 : Int).toNat = 5 from rfl, Nat.reduceMul, Nat.reduceEqDiff, Go.Addr.add, ↓reduceIte] at hx192_1)
                    (try simp only [show (5 : Int).toNat = 5 from rfl, Nat.reduceMul, Nat.reduceEqDiff, Go.Addr.add, ↓reduceIte] at hx192_2)
                    (try simp only [show (5 : Int).toNat = 5 from rfl, Nat.reduceMul, Nat.reduceEqDiff, Go.Addr.add, ↓reduceIte] at hx192_3)
                    (try simp only [show (5 : Int).toNat = 5 from rfl, Nat.reduceMul, Nat.reduceEqDiff, Go.Addr.add, ↓reduceIte] at hx192_4)
                    have qi192 : (5 < l0.length) = True := eq_true (by omega)
                    (try rw [show ((5 : Int)).toNat = 5 from rfl] at hx192_0)
                    (try rw [show 5 * 5 = 25 from rfl] at hx192_0)
                    (try rw [show ((5 : Int)).toNat = 5 from rfl] at hx192_1)
                    (try rw [show 5 * 5 = 25 from rfl] at hx192_1)
                    (try rw [show ((5 : Int)).toNat = 5 from rfl] at hx192_2)
                    (try rw [show 5 * 5 = 25 from rfl] at hx192_2)
                    (try rw [show ((5 : Int)).toNat = 5 from rfl] at hx192_3)
                    (try rw [show 5 * 5 = 25 from rfl] at hx192_3)
                    (try rw [show ((5 : Int)).toNat = 5 from rfl] at hx192_4)
                    (try rw [show 5 * 5 = 25 from rfl] at hx192_4)
                    replace p192 := eq_true p192
                    replace q192 := eq_true q192
                    go_wp2_with (first | (go_at_call 15; (with_reducible refine (pendulumref06_Mode.calls ((rd_T46 l0 5).f1) t193 _ A63.out).mono ?_); rintro e w' ⟨rfl, ⟨nd, rfl⟩⟩))
                    go_roundg kj2
                    case measure => have := HK1.out; have := HJ2.out; omega
                    case rel => exact ⟨(wrap64 (x5_1 + 1)), (by first | rfl | (simp; done) | (simp [*]; done)), H', ⟨by have := HK1.out; have := HJ2.out; omega⟩, by repeat (first | exact Drawn0.refl _ | apply Drawn0.step)⟩
                  ·rw [if_neg c62] at H
                   exact absurd H (by simp)
                 ·rw [if_neg c61] at H
                  have c61b0 : (x5_1 == 5) = false := beq_eq_false_iff_ne.mpr c61
                  have c61b1 : (x5_1 != 5) = true := bne_iff_ne.mpr c61
                  have H' := Aside0.mk H
                  clear H
                  have p163 : 0 ≤ (x5_1 : Int) := of_decide_eq_true (by first | (with_reducible assumption) | assumption)
                  have q163 : x5_1 < (l0.length : Int) := of_decide_eq_true (by first | (with_reducible assumption) | assumption)
                  obtain ⟨ad163, e163, hx163_0, hx163_1, hx163_2, hx163_3, hx163_4⟩ := at_T46 HR0.out x5_1 p163 q163
                  cases e163
                  replace p163 := eq_true p163
                  replace q163 := eq_true q163
                  have p181 : 0 ≤ (x5_1 : Int) := of_decide_eq_true (by first | (with_reducible assumption) | assumption)
                  have q181 : x5_1 < (l1.length : Int) := of_decide_eq_true (by first | (with_reducible assumption) | assumption)
                  obtain ⟨ad181, e181, hx181_0⟩ := Kd.at_int HR1.out x5_1 p181 q181
                  cases e181
                  replace p181 := eq_true p181
                  replace q181 := eq_true q181
                  have p182 : 0 ≤ (1 : Int) := (by omega)
                  have q182 : 1 < (l1.length : Int) := of_decide_eq_true (by first | (with_reducible assumption) | assumption)
                  obtain ⟨ad182, e182, hx182_0⟩ := Kd.at_int HR1.out 1 p182 q182
                  obtain rfl : ad181 = ad182 := (by injection e182)
                  (try simp only [show (1 : Int).toNat = 1 from rfl, Nat.reduceMul, Nat.reduceEqDiff, Go.Addr.add, ↓reduceIte] at hx182_0)
                  have qi182 : (1 < l1.length) = True := eq_true (by omega)
                  (try rw [show ((1 : Int)).toNat = 1 from rfl] at hx182_0)
                  replace p182 := eq_true p182
                  replace q182 := eq_true q182
                  have p190 : 0 ≤ (1 : Int) := (by omega)
                  have q190 : 1 < (l1.length : Int) := of_decide_eq_true (by first | (with_reducible assumption) | assumption)
                  obtain ⟨ad190, e190, hx190_0⟩ := Kd.at_int HR1.out 1 p190 q190
                  obtain rfl : ad181 = ad190 := (by injection e190)
                  (try simp only [show (1 : Int).toNat = 1 from rfl, Nat.reduceMul, Nat.reduceEqDiff, Go.Addr.add, ↓reduceIte] at hx190_0)
                  have qi190 : (1 < l1.length) = True := eq_true (by omega)
                  (try rw [show ((1 : Int)).toNat = 1 from rfl] at hx190_0)
                  replace p190 := eq_true p190
                  replace q190 := eq_true q190
                  have p191 : 0 ≤ (0 : Int) := (by omega)
                  have q191 : 0 < (l0.length : Int) := of_decide_eq_true (by first | (with_reducible assumption) | assumption)
                  obtain ⟨ad191, e191, hx191_0, hx191_1, hx191_2, hx191_3, hx191_4⟩ := at_T46 HR0.out 0 p191 q191
                  obtain rfl : ad163 = ad191 := (by injection e191)
                  have qi191 : (0 < l0.length) = True := eq_true (by omega)
                  (try rw [show ((0 : Int)).toNat = 0 from rfl] at hx191_0)
                  (try rw [show 0 * 5 = 0 from rfl] at hx191_0)
                  (try rw [Addr.add_zero'] at hx191_0)
                  (try rw [show ((0 : Int)).toNat = 0 from rfl] at hx191_1)
                  (try rw [show 0 * 5 = 0 from rfl] at hx191_1)
                  (try rw [Addr.add_zero'] at hx191_1)
                  (try rw [show ((0 : Int)).toNat = 0 from rfl] at hx191_2)
                  (try rw [show 0 * 5 = 0 from rfl] at hx191_2)
                  (try rw [Addr.add_zero'] at hx191_2)
                  (try rw [show ((0 : Int)).toNat = 0 from rfl] at hx191_3)
                  (try rw [show 0 * 5 = 0 from rfl] at hx191_3)
                  (try rw [Addr.add_zero'] at hx191_3)
                  (try rw [show ((0 : Int)).toNat = 0 from rfl] at hx191_4)
                  (try rw [show 0 * 5 = 0 from rfl] at hx191_4)
                  (try rw [Addr.add_zero'] at hx191_4)
                  replace p191 := eq_true p191
                  replace q191 := eq_true q191
                  go_wp2
                  go_roundg kj2
                  case measure => have := HK1.out; have := HJ2.out; omega
                  case rel => exact ⟨(wrap64 (x5_1 + 1)), (by first | rfl | (simp; done) | (simp [*]; done)), H', ⟨by have := HK1.out; have := HJ2.out; omega⟩, by repeat (first | exact Drawn0.refl _ | apply Drawn0.step)⟩
                ·rw [if_neg c60] at H
                 have c60b0 : (((rd_T46 l0 0).f1).toList == ([116, 97, 115, 107] : List UInt8)) = false := beq_eq_false_iff_ne.mpr c60
                 have c60b1 : (((rd_T46 l0 0).f1).toList != ([116, 97, 115, 107] : List UInt8)) = true := bne_iff_ne.mpr c60
                 obtain rfl := Option.some.inj H
                 have p163 : 0 ≤ (x5_1 : Int) := of_decide_eq_true (by first | (with_reducible assumption) | assumption)
                 have q163 : x5_1 < (l0.length : Int) := of_decide_eq_true (by first | (with_reducible assumption) | assumption)
                 obtain ⟨ad163, e163, hx163_0, hx163_1, hx163_2, hx163_3, hx163_4⟩ := at_T46 HR0.out x5_1 p163 q163
                 cases e163
                 replace p163 := eq_true p163
                 replace q163 := eq_true q163
                 have p181 : 0 ≤ (x5_1 : Int) := of_decide_eq_true (by first | (with_reducible assumption) | assumption)
                 have q181 : x5_1 < (l1.length : Int) := of_decide_eq_true (by first | (with_reducible assumption) | assumption)
                 obtain ⟨ad181, e181, hx181_0⟩ := Kd.at_int HR1.out x5_1 p181 q181
                 cases e181
                 replace p181 := eq_true p181
                 replace q181 := eq_true q181
                 have p182 : 0 ≤ (1 : Int) := (by omega)
                 have q182 : 1 < (l1.length : Int) := of_decide_eq_true (by first | (with_reducible assumption) | assumption)
                 obtain ⟨ad182, e182, hx182_0⟩ := Kd.at_int HR1.out 1 p182 q182
                 obtain rfl : ad181 = ad182 := (by injection e182)
                 (try simp only [show (1 : Int).toNat = 1 from rfl, Nat.reduceMul, Nat.reduceEqDiff, Go.Addr.add, ↓reduceIte] at hx182_0)
                 have qi182 : (1 < l1.length) = True := eq_true (by omega)
                 (try rw [show ((1 : Int)).toNat = 1 from rfl] at hx182_0)
                 replace p182 := eq_true p182
                 replace q182 := eq_true q182
                 have p190 : 0 ≤ (1 : Int) := (by omega)
                 have q190 : 1 < (l1.length : Int) := of_decide_eq_true (by first | (with_reducible assumption) | assumption)
                 obtain ⟨ad190, e190, hx190_0⟩ := Kd.at_int HR1.out 1 p190 q190
                 obtain rfl : ad181 = ad190 := (by injection e190)
                 (try simp only [show (1 : Int).toNat = 1 from rfl, Nat.reduceMul, Nat.reduceEqDiff, Go.Addr.add, ↓reduceIte] at hx190_0)
                 have qi190 : (1 < l1.length) = True := eq_true (by omega)
                 (try rw [show ((1 : Int)).toNat = 1 from rfl] at hx190_0)
                 replace p190 := eq_true p190
                 replace q190 := eq_true q190
                 have p191 : 0 ≤ (0 : Int) := (by omega)
                 have q191 : 0 < (l0.length : Int) := of_decide_eq_true (by first | (with_reducible assumption) | assumption)
                 obtain ⟨ad191, e191, hx191_0, hx191_1, hx191_2, hx191_3, hx191_4⟩ := at_T46 HR0.out 0 p191 q191
                 obtain rfl : ad163 = ad191 := (by injection e191)
                 have qi191 : (0 < l0.length) = True := eq_true (by omega)
                 (try rw [show ((0 : Int)).toNat = 0 from rfl] at hx191_0)
                 (try rw [show 0 * 5 = 0 from rfl] at hx191_0)
                 (try rw [Addr.add_zero'] at hx191_0)
                 (try rw [show ((0 : Int)).toNat = 0 from rfl] at hx191_1)
                 (try rw [show 0 * 5 = 0 from rfl] at hx191_1)
                 (try rw [Addr.add_zero'] at hx191_1)
                 (try rw [show ((0 : Int)).toNat = 0 from rfl] at hx191_2)
                 (try rw [show 0 * 5 = 0 from rfl] at hx191_2)
                 (try rw [Addr.add_zero'] at hx191_2)
                 (try rw [show ((0 : Int)).toNat = 0 from rfl] at hx191_3)
                 (try rw [show 0 * 5 = 0 from rfl] at hx191_3)
                 (try rw [Addr.add_zero'] at hx191_3)
                 (try rw [show ((0 : Int)).toNat = 0 from rfl] at hx191_4)
                 (try rw [show 0 * 5 = 0 from rfl] at hx191_4)
                 (try rw [Addr.add_zero'] at hx191_4)
                 replace p191 := eq_true p191
                 replace q191 := eq_true q191
                 go_wp2
                 go_ret
                 exact ⟨by first | rfl | (simp; done) | (simp [*]; done), by repeat (first | exact Drawn0.refl _ | apply Drawn0.step)⟩
               ·rw [if_neg c59] at H
                exact absurd H (by simp)
              ·rw [if_neg c58] at H
               have c58b0 : ((rd l1 1) == 1) = false := beq_eq_false_iff_ne.mpr c58
               have c58b1 : ((rd l1 1) != 1) = true := bne_iff_ne.mpr c58
               by_cases c65 : x5_1 = 5
               ·rw [if_pos c65] at H
                have c65b0 : (x5_1 == 5) = true := beq_iff_eq.mpr c65
                have c65b1 : (x5_1 != 5) = false := bne_eq_false_iff_eq.mpr c65
                clear c65
                by_cases c66 : 5 < (l0.length : Int)
                ·rw [if_pos c66] at H
                 have c66b0 : decide (5 < (l0.length : Int)) = true := decide_eq_true c66
                 have c66b1 : decide (5 < l0.length) = true := decide_eq_true (by omega)
                 clear c66
                 replace H := Option.bind_eq_some_iff.mp H
                 obtain ⟨t195, A670, H⟩ := H
                 replace H : (if t195 = 0 then (some x5_1) else (pendulumref06_shape.l0 kj2 l0 l1 (wrap64 (x5_1 + 1)))) = some r := H
                 have A67 := Aside0.mk A670
                 clear A670
                 by_cases c68 : t195 = 0
                 ·rw [if_pos c68] at H
                  have c68b0 : (t195 == 0) = true := beq_iff_eq.mpr c68
                  have c68b1 : (t195 != 0) = false := bne_eq_false_iff_eq.mpr c68
                  clear c68
                  obtain rfl := Option.some.inj H
                  have p163 : 0 ≤ (x5_1 : Int) := of_decide_eq_true (by first | (with_reducible assumption) | assumption)
                  have q163 : x5_1 < (l0.length : Int) := of_decide_eq_true (by first | (with_reducible assumption) | assumption)
                  obtain ⟨ad163, e163, hx163_0, hx163_1, hx163_2, hx163_3, hx163_4⟩ := at_T46 HR0.out x5_1 p163 q163
                  cases e163
                  replace p163 := eq_true p163
                  replace q163 := eq_true q163
                  have p181 : 0 ≤ (x5_1 : Int) := of_decide_eq_true (by first | (with_reducible assumption) | assumption)
                  have q181 : x5_1 < (l1.length : Int) := of_decide_eq_true (by first | (with_reducible assumption) | assumption)
                  obtain ⟨ad181, e181, hx181_0⟩ := Kd.at_int HR1.out x5_1 p181 q181
                  cases e181
                  replace p181 := eq_true p181
                  replace q181 := eq_true q181
                  have p182 : 0 ≤ (1 : Int) := (by omega)
                  have q182 : 1 < (l1.length : Int) := of_decide_eq_true (by first | (with_reducible assumption) | assumption)
                  obtain ⟨ad182, e182, hx182_0⟩ := Kd.at_int HR1.out 1 p182 q182
                  obtain rfl : ad181 = ad182 := (by injection e182)
                  (try simp only [show (1 : Int).toNat = 1 from rfl, Nat.reduceMul, Nat.reduceEqDiff, Go.Addr.add, ↓reduceIte] at hx182_0)
                  have qi182 : (1 < l1.length) = True := eq_true (by omega)
                  (try rw [show ((1 : Int)).toNat = 1 from rfl] at hx182_0)
                  replace p182 := eq_true p182
                  replace q182 := eq_true q182
                  have p190 : 0 ≤ (1 : Int) := (by omega)
                  have q190 : 1 < (l1.length : Int) := of_decide_eq_true (by first | (with_reducible assumption) | assumption)
                  obtain ⟨ad190, e190, hx190_0⟩ := Kd.at_int HR1.out 1 p190 q190
                  obtain rfl : ad181 = ad190 := (by injection e190)
                  (try simp only [show (1 : Int).toNat = 1 from rfl, Nat.reduceMul, Nat.reduceEqDiff, Go.Addr.add, ↓reduceIte] at hx190_0)
                  have qi190 : (1 < l1.length) = True := eq_true (by omega)
                  (try rw [show ((1 : Int)).toNat = 1 from rfl] at hx190_0)
                  replace p190 := eq_true p190
                  replace q190 := eq_true q190
                  have p194 : 0 ≤ (5 : Int) := (by omega)
                  have q194 : 5 < (l0.length : Int) := of_decide_eq_true (by first | (with_reducible assumption) | assumption)
                  obtain ⟨ad194, e194, hx194_0, hx194_1, hx194_2, hx194_3, hx194_4⟩ := at_T46 HR0.out 5 p194 q194
                  obtain rfl : ad163 = ad194 := (by injection e194)
                  (try simp only [show (5 : Int).toNat = 5 from rfl, Nat.reduceMul, Nat.reduceEqDiff, Go.Addr.add, ↓reduceIte] at hx194_0)
                  (try simp only [show (5 : Int).toNat = 5 from rfl, Nat.reduceMul, Nat.reduceEqDiff, Go.Addr.add, ↓reduceIte] at hx194_1)
                  (try simp only [show (5 : Int).toNat = 5 from rfl, Nat.reduceMul, Nat.reduceEqDiff, Go.Addr.add, ↓reduceIte] at hx194_2)
                  (try simp only [show (5 : Int).toNat = 5 from rfl, Nat.reduceMul, Nat.reduceEqDiff, Go.Addr.add, ↓reduceIte] at hx194_3)
                  (try simp only [show (5 : Int).toNat = 5 from rfl, Nat.reduceMul, Nat.reduceEqDiff, Go.Addr.add, ↓reduceIte] at hx194_4)
                  have qi194 : (5 < l0.length) = True := eq_true (by omega)
                  (try rw [show ((5 : Int)).toNat = 5 from rfl] at hx194_0)
                  (try rw [show 5 * 5 = 25 from rfl] at hx194_0)
                  (try rw [show ((5 : Int)).toNat = 5 from rfl] at hx194_1)
                  (try rw [show 5 * 5 = 25 from rfl] at hx194_1)
                  (try rw [show ((5 : Int)).toNat = 5 from rfl] at hx194_2)
                  (try rw [show 5 * 5 = 25 from rfl] at hx194_2)
                  (try rw [show ((5 : Int)).toNat = 5 from rfl] at hx194_3)
                  (try rw [show 5 * 5 = 25 from rfl] at hx194_3)
                  (try rw [show ((5 : Int)).toNat = 5 from rfl] at hx194_4)
                  (try rw [show 5 * 5 = 25 from rfl] at hx194_4)
                  replace p194 := eq_true p194
                  replace q194 := eq_true q194
                  go_wp2_with (first | (go_at_call 15; (with_reducible refine (pendulumref06_Mode.calls ((rd_T46 l0 5).f1) t195 _ A67.out).mono ?_); rintro e w' ⟨rfl, ⟨nd, rfl⟩⟩))
                  go_ret
                  exact ⟨by first | rfl | (simp; done) | (simp [*]; done), by repeat (first | exact Drawn0.refl _ | apply Drawn0.step)⟩
                 ·rw [if_neg c68] at H
                  have c68b0 : (t195 == 0) = false := beq_eq_false_iff_ne.mpr c68
                  have c68b1 : (t195 != 0) = true := bne_iff_ne.mpr c68
                  have H' := Aside0.mk H
                  clear H
                  have p163 : 0 ≤ (x5_1 : Int) := of_decide_eq_true (by first | (with_reducible assumption) | assumption)
                  have q163 : x5_1 < (l0.length : Int) := of_decide_eq_true (by first | (with_reducible assumption) | assumption)
                  obtain ⟨ad163, e163, hx163_0, hx163_1, hx163_2, hx163_3, hx163_4⟩ := at_T46 HR0.out x5_1 p163 q163
                  cases e163
                  replace p163 := eq_true p163
                  replace q163 := eq_true q163
                  have p181 : 0 ≤ (x5_1 : Int) := of_decide_eq_true (by first | (with_reducible assumption) | assumption)
                  have q181 : x5_1 < (l1.length : Int) := of_decide_eq_true (by first | (with_reducible assumption) | assumption)
                  obtain ⟨ad181, e181, hx181_0⟩ := Kd.at_int HR1.out x5_1 p181 q181
                  cases e181
                  replace p181 := eq_true p181
                  replace q181 := eq_true q181
                  have p182 : 0 ≤ (1 : Int) := (by omega)
                  have q182 : 1 < (l1.length : Int) := of_decide_eq_true (by first | (with_reducible assumption) | assumption)
                  obtain ⟨ad182, e182, hx182_0⟩ := Kd.at_int HR1.out 1 p182 q182
                  obtain rfl : ad181 = ad182 := (by injection e182)
                  (try simp only [show (1 : Int).toNat = 1 from rfl, Nat.reduceMul, Nat.reduceEqDiff, Go.Addr.add, ↓reduceIte] at hx182_0)
                  have qi182 : (1 < l1.length) = True := eq_true (by omega)
                  (try rw [show ((1 : Int)).toNat = 1 from rfl] at hx182_0)
                  replace p182 := eq_true p182
                  replace q182 := eq_true q182
                  have p190 : 0 ≤ (1 : Int) := (by omega)
                  have q190 : 1 < (l1.length : Int) := of_decide_eq_true (by first | (with_reducible assumption) | assumption)
                  obtain ⟨ad190, e190, hx190_0⟩ := Kd.at_int HR1.out 1 p190 q190
                  obtain rfl : ad181 = ad190 := (by injection e190)
                  (try simp only [show (1 : Int).toNat = 1 from rfl, Nat.reduceMul, Nat.reduceEqDiff, Go.Addr.add, ↓reduceIte] at hx190_0)
                  have qi190 : (1 < l1.length) = True := eq_true (by omega)
                  (try rw [show ((1 : Int)).toNat = 1 from rfl] at hx190_0)
                  replace p190 := eq_true p190
                  replace q190 := eq_true q190
                  have p194 : 0 ≤ (5 : Int) := (by omega)
                  have q194 : 5 < (l0.length : Int) := of_decide_eq_true (by first | (with_reducible assumption) | assumption)
                  obtain ⟨ad194, e194, hx194_0, hx194_1, hx194_2, hx194_3, hx194_4⟩ := at_T46 HR0.out 5 p194 q194
                  obtain rfl : ad163 = ad194 := (by injection e194)
                  (try simp only [show (5 : Int).toNat = 5 from rfl, Nat.reduceMul, Nat.reduceEqDiff, Go.Addr.add, ↓reduceIte] at hx194_0)
                  (try simp only [show (5 : Int).toNat = 5 from rfl, Nat.reduceMul, Nat.reduceEqDiff, Go.Addr.add, ↓reduceIte] at hx194_1)
                  (try simp only [show (5 : Int).toNat = 5 from rfl, Nat.reduceMul, Nat.reduceEqDiff, Go.Addr.add, ↓reduceIte] at hx194_2)
                  (try simp only [show (5 : Int).toNat = 5 from rfl, Nat.reduceMul, Nat.reduceEqDiff, Go.Addr.add, ↓reduceIte] at hx194_3)
                  (try simp only [show (5 : Int).toNat = 5 from rfl, Nat.reduceMul, Nat.reduceEqDiff, Go.Addr.add, ↓reduceIte] at hx194_4)
                  have qi194 : (5 < l0.length) = True := eq_true (by omega)
                  (try rw [show ((5 : Int)).toNat = 5 from rfl] at hx194_0)
                  (try rw [show 5 * 5 = 25 from rfl] at hx194_0)
                  (try rw [show ((5 : Int)).toNat = 5 from rfl] at hx194_1)
                  (try rw [show 5 * 5 = 25 from rfl] at hx194_1)
                  (try rw [show ((5 : Int)).toNat = 5 from rfl] at hx194_2)
                  (try rw [show 5 * 5 = 25 from rfl] at hx194_2)
                  (try rw [show ((5 : Int)).toNat = 5 from rfl] at hx194_3)
                  (try rw [show 5 * 5 = 25 from rfl] at hx194_3)
                  (try rw [show ((5 : Int)).toNat = 5 from rfl] at hx194_4)
                  (try rw [show 5 * 5 = 25 from rfl] at hx194_4)
                  replace p194 := eq_true p194
                  replace q194 := eq_true q194
                  go_wp2_with (first | (go_at_call 15; (with_reducible refine (pendulumref06_Mode.calls ((rd_T46 l0 5).f1) t195 _ A67.out).mono ?_); rintro e w' ⟨rfl, ⟨nd, rfl⟩⟩))
                  go_roundg kj2
                  case measure => have := HK1.out; have := HJ2.out; omega
                  case rel => exact ⟨(wrap64 (x5_1 + 1)), (by first | rfl | (simp; done) | (simp [*]; done)), H', ⟨by have := HK1.out; have := HJ2.out; omega⟩, by repeat (first | exact Drawn0.refl _ | apply Drawn0.step)⟩
                ·rw [if_neg c66] at H
                 exact absurd H (by simp)
               ·rw [if_neg c65] at H
                have c65b0 : (x5_1 == 5) = false := beq_eq_false_iff_ne.mpr c65
                have c65b1 : (x5_1 != 5) = true := bne_iff_ne.mpr c65
                have H' := Aside0.mk H
                clear H
                have p163 : 0 ≤ (x5_1 : Int) := of_decide_eq_true (by first | (with_reducible assumption) | assumption)
                have q163 : x5_1 < (l0.length : Int) := of_decide_eq_true (by first | (with_reducible assumption) | assumption)
                obtain ⟨ad163, e163, hx163_0, hx163_1, hx163_2, hx163_3, hx163_4⟩ := at_T46 HR0.out x5_1 p163 q163
                cases e163
                replace p163 := eq_true p163
                replace q163 := eq_true q163
                have p181 : 0 ≤ (x5_1 : Int) := of_decide_eq_true (by first | (with_reducible assumption) | assumption)
                have q181 : x5_1 < (l1.length : Int) := of_decide_eq_true (by first | (with_reducible assumption) | assumption)
                obtain ⟨ad181, e181, hx181_0⟩ := Kd.at_int HR1.out x5_1 p181 q181
                cases e181
                replace p181 := eq_true p181
                replace q181 := eq_true q181
                have p182 : 0 ≤ (1 : Int) := (by omega)
                have q182 : 1 < (l1.length : Int) := of_decide_eq_true (by first | (with_reducible assumption) | assumption)
                obtain ⟨ad182, e182, hx182_0⟩ := Kd.at_int HR1.out 1 p182 q182
                obtain rfl : ad181 = ad182 := (by injection e182)
                (try simp only [show (1 : Int).toNat = 1 from rfl, Nat.reduceMul, Nat.reduceEqDiff, Go.Addr.add, ↓reduceIte] at hx182_0)
                have qi182 : (1 < l1.length) = True := eq_true (by omega)
                (try rw [show ((1 : Int)).toNat = 1 from rfl] at hx182_0)
                replace p182 := eq_true p182
                replace q182 := eq_true q182
                have p190 : 0 ≤ (1 : Int) := (by omega)
                have q190 : 1 < (l1.length : Int) := of_decide_eq_true (by first | (with_reducible assumption) | assumption)
                obtain ⟨ad190, e190, hx190_0⟩ := Kd.at_int HR1.out 1 p190 q190
                obtain rfl : ad181 = ad190 := (by injection e190)
                (try simp only [show (1 : Int).toNat = 1 from rfl, Nat.reduceMul, Nat.reduceEqDiff, Go.Addr.add, ↓reduceIte] at hx190_0)
                have qi190 : (1 < l1.length) = True := eq_true (by omega)
                (try rw [show ((1 : Int)).toNat = 1 from rfl] at hx190_0)
                replace p190 := eq_true p190
                replace q190 := eq_true q190
                go_wp2
                go_roundg kj2
                case measure => have := HK1.out; have := HJ2.out; omega
                case rel => exact ⟨(wrap64 (x5_1 + 1)), (by first | rfl | (simp; done) | (simp [*]; done)), H', ⟨by have := HK1.out; have := HJ2.out; omega⟩, by repeat (first | exact Drawn0.refl _ | apply Drawn0.step)⟩
            ·rw [if_neg c44] at H
             exact absurd H (by simp)
           ·rw [if_neg c43] at H
            have c43b0 : (x5_1 == 0) = false := beq_eq_false_iff_ne.mpr c43
            have c43b1 : (x5_1 != 0) = true := bne_iff_ne.mpr c43
            by_cases c69 : x5_1 = 5
            ·rw [if_pos c69] at H
             have c69b0 : (x5_1 == 5) = true := beq_iff_eq.mpr c69
             have c69b1 : (x5_1 != 5) = false := bne_eq_false_iff_eq.mpr c69
             clear c69
             by_cases c70 : 5 < (l0.length : Int)
             ·rw [if_pos c70] at H
              have c70b0 : decide (5 < (l0.length : Int)) = true := decide_eq_true c70
              have c70b1 : decide (5 < l0.length) = true := decide_eq_true (by omega)
              clear c70
              replace H := Option.bind_eq_some_iff.mp H
              obtain ⟨t197, A710, H⟩ := H
              replace H : (if t197 = 0 then (some x5_1) else (pendulumref06_shape.l0 kj2 l0 l1 (wrap64 (x5_1 + 1)))) = some r := H
              have A71 := Aside0.mk A710
              clear A710
              by_cases c72 : t197 = 0
              ·rw [if_pos c72] at H
               have c72b0 : (t197 == 0) = true := beq_iff_eq.mpr c72
               have c72b1 : (t197 != 0) = false := bne_eq_false_iff_eq.mpr c72
               clear c72
               obtain rfl := Option.some.inj H
               have p163 : 0 ≤ (x5_1 : Int) := of_decide_eq_true (by first | (with_reducible assumption) | assumption)
               have q163 : x5_1 < (l0.length : Int) := of_decide_eq_true (by first | (with_reducible assumption) | assumption)
               obtain ⟨ad163, e163, hx163_0, hx163_1, hx163_2, hx163_3, hx163_4⟩ := at_T46 HR0.out x5_1 p163 q163
               cases e163
               replace p163 := eq_true p163
               replace q163 := eq_true q163
               have p181 : 0 ≤ (x5_1 : Int) := of_decide_eq_true (by first | (with_reducible assumption) | assumption)
               have q181 : x5_1 < (l1.length : Int) := of_decide_eq_true (by first | (with_reducible assumption) | assumption)
               obtain ⟨ad181, e181, hx181_0⟩ := Kd.at_int HR1.out x5_1 p181 q181
               cases e181
               replace p181 := eq_true p181
               replace q181 := eq_true q181
               have p196 : 0 ≤ (5 : Int) := (by omega)
               have q196 : 5 < (l0.length : Int) := of_decide_eq_true (by first | (with_reducible assumption) | assumption)
               obtain ⟨ad196, e196, hx196_0, hx196_1, hx196_2, hx196_3, hx196_4⟩ := at_T46 HR0.out 5 p196 q196
               obtain rfl : ad163 = ad196 := (by injection e196)
               (try simp only [show (5 : Int).toNat = 5 from rfl, Nat.reduceMul, Nat.reduceEqDiff, Go.Addr.add, ↓reduceIte] at hx196_0)
               (try simp only [show (5 : Int).toNat = 5 from rfl, Nat.reduceMul, Nat.reduceEqDiff, Go.Addr.add, ↓reduceIte] at hx196_1)
               (try simp only [show (5 : Int).toNat = 5 from rfl, Nat.reduceMul, Nat.reduceEqDiff, Go.Addr.add, ↓reduceIte] at hx196_2)
               (try simp only [show (5 : Int).toNat = 5 from rfl, Nat.reduceMul, Nat.reduceEqDiff, Go.Addr.add, ↓reduceIte] at hx196_3)
               (try simp only [show (5 : Int).toNat = 5 from rfl, Nat.reduceMul, Nat.reduceEqDiff, Go.Addr.add, ↓reduceIte] at hx196_4)
               have qi196 : (5 < l0.length) = True := eq_true (by omega)
               (try rw [show ((5 : Int)).toNat = 5 from rfl] at hx196_0)
               (try rw [show 5 * 5 = 25 from rfl] at hx196_0)
               (try rw [show ((5 : Int)).toNat = 5 from rfl] at hx196_1)
               (try rw [show 5 * 5 = 25 from rfl] at hx196_1)
               (try rw [show ((5 : Int)).toNat = 5 from rfl] at hx196_2)
               (try rw [show 5 * 5 = 25 from rfl] at hx196_2)
               (try rw [show ((5 : Int)).toNat = 5 from rfl] at hx196_3)
               (try rw [show 5 * 5 = 25 from rfl] at hx196_3)
               (try rw [show ((5 : Int)).toNat = 5 from rfl] at hx196_4)
               (try rw [show 5 * 5 = 25 from rfl] at hx196_4)
               replace p196 := eq_true p196
               replace q196 := eq_true q196
               go_wp2_with (first | (go_at_call 15; (with_reducible refine (pendulumref06_Mode.calls ((rd_T46 l0 5).f1) t197 _ A71.out).mono ?_); rintro e w' ⟨rfl, ⟨nd, rfl⟩⟩))
               go_ret
               exact ⟨by first | rfl | (simp; done) | (simp [*]; done), by repeat (first | exact Drawn0.refl _ | apply Drawn0.step)⟩
              ·rw [if_neg c72] at H
               have c72b0 : (t197 == 0) = false := beq_eq_false_iff_ne.mpr c72
               have c72b1 : (t197 != 0) = true := bne_iff_ne.mpr c72
               have H' := Aside0.mk H
               clear H
               have p163 : 0 ≤ (x5_1 : Int) := of_decide_eq_true (by first | (with_reducible assumption) | assumption)
               have q163 : x5_1 < (l0.length : Int) := of_decide_eq_true (by first | (with_reducible assumption) | assumption)
               obtain ⟨ad163, e163, hx163_0, hx163_1, hx163_2, hx163_3, hx163_4⟩ := at_T46 HR0.out x5_1 p163 q163
               cases e163
               replace p163 := eq_true p163
               replace q163 := eq_true q163
               have p181 : 0 ≤ (x5_1 : Int) := of_decide_eq_true (by first | (with_reducible assumption) | assumption)
               have q181 : x5_1 < (l1.length : Int) := of_decide_eq_true (by first | (with_reducible assumption) | assumption)
               obtain ⟨ad181, e181, hx181_0⟩ := Kd.at_int HR1.out x5_1 p181 q181
               cases e181
               replace p181 := eq_true p181
               replace q181 := eq_true q181
               have p196 : 0 ≤ (5 : Int) := (by omega)
               have q196 : 5 < (l0.length : Int) := of_decide_eq_true (by first | (with_reducible assumption) | assumption)
               obtain ⟨ad196, e196, hx196_0, hx196_1, hx196_2, hx196_3, hx196_4⟩ := at_T46 HR0.out 5 p196 q196
               obtain rfl : ad163 = ad196 := (by injection e196)
               (try simp only [show (5 : Int).toNat = 5 from rfl, Nat.reduceMul, Nat.reduceEqDiff, Go.Addr.add, ↓reduceIte] at hx196_0)
               (try simp only [show (5 : Int).toNat = 5 from rfl, Nat.reduceMul, Nat.reduceEqDiff, Go.Addr.add, ↓reduceIte] at hx196_1)
               (try simp only [show (5 : Int).toNat = 5 from rfl, Nat.reduceMul, Nat.reduceEqDiff, Go.Addr.add, ↓reduceIte] at hx196_2)
               (try simp only [show (5 : Int).toNat = 5 from rfl, Nat.reduceMul, Nat.reduceEqDiff, Go.Addr.add, ↓reduceIte] at hx196_3)
               (try simp only [show (5 : Int).toNat = 5 from rfl, Nat.reduceMul, Nat.reduceEqDiff, Go.Addr.add, ↓reduceIte] at hx196_4)
               have qi196 : (5 < l0.length) = True := eq_true (by omega)
               (try rw [show ((5 : Int)).toNat = 5 from rfl] at hx196_0)
               (try rw [show 5 * 5 = 25 from rfl] at hx196_0)
               (try rw [show ((5 : Int)).toNat = 5 from rfl] at hx196_1)
               (try rw [show 5 * 5 = 25 from rfl] at hx196_1)
               (try rw [show ((5 : Int)).toNat = 5 from rfl] at hx196_2)
               (try rw [show 5 * 5 = 25 from rfl] at hx196_2)
               (try rw [show ((5 : Int)).toNat = 5 from rfl] at hx196_3)
               (try rw [show 5 * 5 = 25 from rfl] at hx196_3)
               (try rw [show ((5 : Int)).toNat = 5 from rfl] at hx196_4)
               (try rw [show 5 * 5 = 25 from rfl] at hx196_4)
               replace p196 := eq_true p196
               replace q196 := eq_true q196
               go_wp2_with (first | (go_at_call 15; (with_reducible refine (pendulumref06_Mode.calls ((rd_T46 l0 5).f1) t197 _ A71.out).mono ?_); rintro e w' ⟨rfl, ⟨nd, rfl⟩⟩))
               go_roundg kj2
               case measure => have := HK1.out; have := HJ2.out; omega
               case rel => exact ⟨(wrap64 (x5_1 + 1)), (by first | rfl | (simp; done) | (simp [*]; done)), H', ⟨by have := HK1.out; have := HJ2.out; omega⟩, by repeat (first | exact Drawn0.refl _ | apply Drawn0.step)⟩
             ·rw [if_neg c70] at H
              exact absurd H (by simp)
            ·rw [if_neg c69] at H
             have c69b0 : (x5_1 == 5) = false := beq_eq_false_iff_ne.mpr c69
             have c69b1 : (x5_1 != 5) = true := bne_iff_ne.mpr c69
             have H' := Aside0.mk H
             clear H
             have p163 : 0 ≤ (x5_1 : Int) := of_decide_eq_true (by first | (with_reducible assumption) | assumption)
             have q163 : x5_1 < (l0.length : Int) := of_decide_eq_true (by first | (with_reducible assumption) | assumption)
             obtain ⟨ad163, e163, hx163_0, hx163_1, hx163_2, hx163_3, hx163_4⟩ := at_T46 HR0.out x5_1 p163 q163
             cases e163
             replace p163 := eq_true p163
             replace q163 := eq_true q163
             have p181 : 0 ≤ (x5_1 : Int) := of_decide_eq_true (by first | (with_reducible assumption) | assumption)
             have q181 : x5_1 < (l1.length : Int) := of_decide_eq_true (by first | (with_reducible assumption) | assumption)
             obtain ⟨ad181, e181, hx181_0⟩ := Kd.at_int HR1.out x5_1 p181 q181
             cases e181
             replace p181 := eq_true p181
             replace q181 := eq_true q181
             go_wp2
             go_roundg kj2
             case measure => have := HK1.out; have := HJ2.out; omega
             case rel => exact ⟨(wrap64 (x5_1 + 1)), (by first | rfl | (simp; done) | (simp [*]; done)), H', ⟨by have := HK1.out; have := HJ2.out; omega⟩, by repeat (first | exact Drawn0.refl _ | apply Drawn0.step)⟩
          ·rw [if_neg c42] at H
           have c42b0 : (((rd_T46 l0 x5_1).f0) == (rd l1 x5_1)) = false := beq_eq_false_iff_ne.mpr c42
           have c42b1 : (((rd_T46 l0 x5_1).f0) != (rd l1 x5_1)) = true := bne_iff_ne.mpr c42
           obtain rfl := Option.some.inj H
           have p163 : 0 ≤ (x5_1 : Int) := of_decide_eq_true (by first | (with_reducible assumption) | assumption)
           have q163 : x5_1 < (l0.length : Int) := of_decide_eq_true (by first | (with_reducible assumption) | assumption)
           obtain ⟨ad163, e163, hx163_0, hx163_1, hx163_2, hx163_3, hx163_4⟩ := at_T46 HR0.out x5_1 p163 q163
           cases e163
           replace p163 := eq_true p163
           replace q163 := eq_true q163
           have p181 : 0 ≤ (x5_1 : Int) := of_decide_eq_true (by first | (with_reducible assumption) | assumption)
           have q181 : x5_1 < (l1.length : Int) := of_decide_eq_true (by first | (with_reducible assumption) | assumption)
           obtain ⟨ad181, e181, hx181_0⟩ := Kd.at_int HR1.out x5_1 p181 q181
           cases e181
           replace p181 := eq_true p181
           replace q181 := eq_true q181
           go_wp2
           go_ret
           exact ⟨by first | rfl | (simp; done) | (simp [*]; done), by repeat (first | exact Drawn0.refl _ | apply Drawn0.step)⟩
         ·rw [if_neg c41] at H
          exact absurd H (by simp)
       ·rw [if_neg c7] at H
        exact absurd H (by simp)
      ·rw [if_neg c6] at H
       exact absurd H (by simp)
     ·replace c5 := Bool.eq_false_iff.mpr c5
      subst c5
      have H1 : (some (-1)) = some r := by rw [if_neg (show ¬ (false = true) by decide)] at H; exact H
      clear H
      have H := H1
      clear H1
      obtain rfl := Option.some.inj H
      go_wp2
      go_ret
      exact ⟨by first | rfl | (simp; done) | (simp [*]; done), by repeat (first | exact Drawn0.refl _ | apply Drawn0.step)⟩

end Go.Proofs.YtddbkcfdfgehkaaDoor.Q
