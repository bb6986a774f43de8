-- Written for this claim by the session's own driver (wip/qprint.py) over the kit's printer, out of the translation. Not trusted: Lean checks it.
import Derived.Test.YtefenbhcbpfihaaDoorM0
import Derived.Test.YtefenbhcbpfihaaDoorQ10
import Derived.Test.YtefenbhcbpfihaaDoorHgapB
import Derived.Test.YtefenbhcbpfihaaDoorHgapC
import Derived.Test.YtefenbhcbpfihaaDoorHgapK
namespace Go.Proofs.YtefenbhcbpfihaaDoor.Q
open Go.RowKit Go.Proofs.YtefenbhcbpfihaaDoorW.PrintWords Go.Proofs.YtefenbhcbpfihaaDoorW.PrintLast Go.Proofs.YtefenbhcbpfihaaDoorW.PrintMore
attribute [local go_sem] max2_int min2_int max_two min_two max_three min_three max_four min_four   -- for this text's walks alone
set_option linter.unusedVariables false
set_option linter.unusedSimpArgs false

/-! ### pendulumlaw21_GapBursts: function 4 -/
mutual
def pendulumlaw21_GapBursts.j0 : Nat → Int → Bool → Int → List (S39) → Option (Bool)
 | 0, _, _, _, _ => none
 | k + 1, x1, x28, x214000, x214001 => if x28 = true then ((pendulumlaw21_awake.f).bind fun t217 => (some t217)) else (if (wrap64 (x214000 + (wrap64 (Int.tmod x1 5)))) > 1000 then (pendulumlaw21_GapBursts.j1 k x214000 x214001 1000 x214001) else (pendulumlaw21_GapBursts.j1 k x214000 x214001 (wrap64 (x214000 + (wrap64 (Int.tmod x1 5)))) x214001))
def pendulumlaw21_GapBursts.j1 : Nat → Int → List (S39) → Int → List (S39) → Option (Bool)
 | 0, _, _, _, _ => none
 | k + 1, x214000, x214001, x219000, x219001 => (gap_Least.f x214000 x214001).bind fun bt219 => ((gap_Least.f x219000 x219001).bind fun bt227 => (if bt219.2.2.2.2 = 0 then (if bt227.2.2.2.2 = 0 then (pendulumlaw21_GapBursts.j2 k bt219.1 (decide (bt227.1 < bt219.1)) x214000 x214001) else (pendulumlaw21_GapBursts.j2 k bt219.1 false x214000 x214001)) else (if bt227.2.2.2.2 = 4 then (some (bt227.1 == 0)) else (some false))))
def pendulumlaw21_GapBursts.j2 : Nat → Int → Bool → Int → List (S39) → Option (Bool)
 | 0, _, _, _, _ => none
 | k + 1, x6, x69, x214000, x214001 => if x69 = true then (some false) else (pendulumlaw21_GapBursts.l0 k x6 0 0 x214000 x214001)
def pendulumlaw21_GapBursts.l0 : Nat → Int → Int → Int → Int → List (S39) → Option (Bool)
 | 0, _, _, _, _, _ => none
 | k + 1, x6, x12, x13, x214000, x214001 => if x13 < (x214001.length : Int) then (if 0 ≤ x13 then (if 0 ≤ x12 then (if x12 < (x214001.length : Int) then (if ((rd_T39 x214001 x13).f10) > ((rd_T39 x214001 x12).f10) then (pendulumlaw21_GapBursts.l0 k x6 x13 (wrap64 (x13 + 1)) x214000 x214001) else (pendulumlaw21_GapBursts.l0 k x6 x12 (wrap64 (x13 + 1)) x214000 x214001)) else (none)) else (none)) else (none)) else (if (x214001.length : Int) = 1 then (some true) else ((some (([] : List (S39)) : List (S39))).bind fun y237 => (if 0 ≤ x12 then (if x12 ≤ (x214001.length : Int) then ((some (x214001.take (x12 : Int).toNat : List (S39))).bind fun y240 => (if y237.length + y240.length < 1466015503701 then ((some (y237 ++ y240 : List (S39))).bind fun y244 => (if 0 ≤ (wrap64 (x12 + 1)) then (if (wrap64 (x12 + 1)) ≤ (x214001.length : Int) then ((some (x214001.drop ((wrap64 (x12 + 1)) : Int).toNat : List (S39))).bind fun y247 => (if y244.length + y247.length < 1466015503701 then ((gap_Least.f x214000 (y244 ++ y247)).bind fun bt254 => (if bt254.2.2.2.2 = 0 then (if bt254.1 ≤ x6 then ((gap_Asked.f x214000 x214001).bind fun t262 => (some (t262 == 21))) else (some false)) else (some false))) else (none))) else (none)) else (none))) else (none))) else (none)) else (none))))
end
def pendulumlaw21_GapBursts.f (k : Nat) (a0_0 : Int) (l0_1 : List (S39)) (a1 : Int) : Option (Bool) := (pendulumlaw21_awake.f).bind fun t214 => (if t214 = true then ((pendulumref19_Small.f k a0_0 l0_1).bind fun t215 => (if t215 = true then ((pendulumref05_Right.f a0_0 l0_1).bind fun t216 => (pendulumlaw21_GapBursts.j0 k a1 (!t216) a0_0 l0_1)) else (pendulumlaw21_GapBursts.j0 k a1 true a0_0 l0_1))) else (pendulumlaw21_GapBursts.j0 k a1 true a0_0 l0_1))
theorem pendulumlaw21_GapBursts.mono_l : ∀ k, (∀ y0 y1 y2 y3, LeO (pendulumlaw21_GapBursts.j0 k y0 y1 y2 y3) (pendulumlaw21_GapBursts.j0 (k + 1) y0 y1 y2 y3)) ∧ (∀ y0 y1 y2 y3, LeO (pendulumlaw21_GapBursts.j1 k y0 y1 y2 y3) (pendulumlaw21_GapBursts.j1 (k + 1) y0 y1 y2 y3)) ∧ (∀ y0 y1 y2 y3, LeO (pendulumlaw21_GapBursts.j2 k y0 y1 y2 y3) (pendulumlaw21_GapBursts.j2 (k + 1) y0 y1 y2 y3)) ∧ (∀ y0 y1 y2 y3 y4, LeO (pendulumlaw21_GapBursts.l0 k y0 y1 y2 y3 y4) (pendulumlaw21_GapBursts.l0 (k + 1) y0 y1 y2 y3 y4))
 | 0 => ⟨fun _ _ _ _ r h => by simp [pendulumlaw21_GapBursts.j0] at h, fun _ _ _ _ r h => by simp [pendulumlaw21_GapBursts.j1] at h, fun _ _ _ _ r h => by simp [pendulumlaw21_GapBursts.j2] at h, fun _ _ _ _ _ r h => by simp [pendulumlaw21_GapBursts.l0] at h⟩
 | k + 1 => by
  obtain ⟨ih0, ih1, ih2, ih3⟩ := pendulumlaw21_GapBursts.mono_l k
  refine ⟨?_, ?_, ?_, ?_⟩
  ·intro y0 y1 y2 y3
   unfold pendulumlaw21_GapBursts.j0
   repeat' first
   | (with_reducible exact ih0 _ _ _ _)
   | (with_reducible exact ih1 _ _ _ _)
   | (with_reducible exact ih2 _ _ _ _)
   | (with_reducible exact ih3 _ _ _ _ _)
   | (with_reducible exact pendulumref19_Small.mono _ _ _)
   | (with_reducible exact LeO.refl _)
   | (with_reducible exact LeO.none _)
   | (with_reducible refine LeO.ite ?_ ?_)
   | (with_reducible refine LeO.bind ?_ (fun _ => ?_))
   | exact ih0 _ _ _ _
   | exact ih1 _ _ _ _
   | exact ih2 _ _ _ _
   | exact ih3 _ _ _ _ _
   | exact pendulumref19_Small.mono _ _ _
   | exact LeO.none _
   | refine LeO.ite ?_ ?_
   | refine LeO.bind ?_ (fun _ => ?_)
  ·intro y0 y1 y2 y3
   unfold pendulumlaw21_GapBursts.j1
   repeat' first
   | (with_reducible exact ih0 _ _ _ _)
   | (with_reducible exact ih1 _ _ _ _)
   | (with_reducible exact ih2 _ _ _ _)
   | (with_reducible exact ih3 _ _ _ _ _)
   | (with_reducible exact pendulumref19_Small.mono _ _ _)
   | (with_reducible exact LeO.refl _)
   | (with_reducible exact LeO.none _)
   | (with_reducible refine LeO.ite ?_ ?_)
   | (with_reducible refine LeO.bind ?_ (fun _ => ?_))
   | exact ih0 _ _ _ _
   | exact ih1 _ _ _ _
   | exact ih2 _ _ _ _
   | exact ih3 _ _ _ _ _
   | exact pendulumref19_Small.mono _ _ _
   | exact LeO.none _
   | refine LeO.ite ?_ ?_
   | refine LeO.bind ?_ (fun _ => ?_)
  ·intro y0 y1 y2 y3
   unfold pendulumlaw21_GapBursts.j2
   repeat' first
   | (with_reducible exact ih0 _ _ _ _)
   | (with_reducible exact ih1 _ _ _ _)
   | (with_reducible exact ih2 _ _ _ _)
   | (with_reducible exact ih3 _ _ _ _ _)
   | (with_reducible exact pendulumref19_Small.mono _ _ _)
   | (with_reducible exact LeO.refl _)
   | (with_reducible exact LeO.none _)
   | (with_reducible refine LeO.ite ?_ ?_)
   | (with_reducible refine LeO.bind ?_ (fun _ => ?_))
   | exact ih0 _ _ _ _
   | exact ih1 _ _ _ _
   | exact ih2 _ _ _ _
   | exact ih3 _ _ _ _ _
   | exact pendulumref19_Small.mono _ _ _
   | exact LeO.none _
   | refine LeO.ite ?_ ?_
   | refine LeO.bind ?_ (fun _ => ?_)
  ·intro y0 y1 y2 y3 y4
   unfold pendulumlaw21_GapBursts.l0
   repeat' first
   | (with_reducible exact ih0 _ _ _ _)
   | (with_reducible exact ih1 _ _ _ _)
   | (with_reducible exact ih2 _ _ _ _)
   | (with_reducible exact ih3 _ _ _ _ _)
   | (with_reducible exact pendulumref19_Small.mono _ _ _)
   | (with_reducible exact LeO.refl _)
   | (with_reducible exact LeO.none _)
   | (with_reducible refine LeO.ite ?_ ?_)
   | (with_reducible refine LeO.bind ?_ (fun _ => ?_))
   | exact ih0 _ _ _ _
   | exact ih1 _ _ _ _
   | exact ih2 _ _ _ _
   | exact ih3 _ _ _ _ _
   | exact pendulumref19_Small.mono _ _ _
   | exact LeO.none _
   | refine LeO.ite ?_ ?_
   | refine LeO.bind ?_ (fun _ => ?_)
theorem pendulumlaw21_GapBursts.mono : ∀ a0 a1 a2 k, LeO (pendulumlaw21_GapBursts.f k a0 a1 a2) (pendulumlaw21_GapBursts.f (k + 1) a0 a1 a2) := by
 intro a0 a1 a2 k
 obtain ⟨ih0, ih1, ih2, ih3⟩ := pendulumlaw21_GapBursts.mono_l k
 unfold pendulumlaw21_GapBursts.f
 repeat' first
   | (with_reducible exact ih0 _ _ _ _)
   | (with_reducible exact ih1 _ _ _ _)
   | (with_reducible exact ih2 _ _ _ _)
   | (with_reducible exact ih3 _ _ _ _ _)
   | (with_reducible exact pendulumref19_Small.mono _ _ _)
   | (with_reducible exact LeO.refl _)
   | (with_reducible exact LeO.none _)
   | (with_reducible refine LeO.ite ?_ ?_)
   | (with_reducible refine LeO.bind ?_ (fun _ => ?_))
   | exact ih0 _ _ _ _
   | exact ih1 _ _ _ _
   | exact ih2 _ _ _ _
   | exact ih3 _ _ _ _ _
   | exact pendulumref19_Small.mono _ _ _
   | exact LeO.none _
   | refine LeO.ite ?_ ?_
   | refine LeO.bind ?_ (fun _ => ?_)
def pendulumlaw21_GapBursts.T16 : Bool × List (List Nat × List Nat) := (true, [([], []), ([0], [0]), ([], []), ([1, 2], [1, 2]), ([3], [3]), ([4], [4]), ([], []), ([6], [6]), ([], []), ([7, 8], [7, 8]), ([9], [9]), ([10], [10]), ([5, 11], [5, 11])])
def pendulumlaw21_GapBursts.B16 : List Nat := [0, 1, 0, 7, 15, 31, 0, 64, 0, 448, 960, 1984, 4095]
theorem pendulumlaw21_GapBursts.tab16 : rtab .any (opsOf Tryd.f4 16) = pendulumlaw21_GapBursts.T16 := by kernel_rfl
theorem pendulumlaw21_GapBursts.bits16 : waitsOk pendulumlaw21_GapBursts.T16.2 pendulumlaw21_GapBursts.B16 = true := by kernel_rfl
def pendulumlaw21_GapBursts.T20 : Bool × List (List Nat × List Nat) := (true, [([], []), ([0], [0]), ([], []), ([], []), ([3], [3]), ([], []), ([4, 5], [4, 5]), ([2, 6], [2, 6]), ([], []), ([8], [8]), ([], []), ([10], [10]), ([9, 11], [9, 11]), ([7, 12, 7], [7, 12]), ([1, 13], [1, 13]), ([14, 13], [14]), ([15], [15]), ([16], [16]), ([16], [16]), ([16], [16]), ([], []), ([17, 15, 0, 1, 2, 3, 4, 5, 6, 7, 8, 9, 10, 11, 12, 13, 14, 15, 16, 17, 20], [17]), ([20, 18, 21, 0, 1, 2, 3, 4, 5, 6, 7, 8, 9, 10, 11, 12, 13, 14, 15, 16, 17, 18, 20, 21], [18, 20]), ([19, 22, 0, 1, 2, 3, 4, 5, 6, 7, 8, 9, 10, 11, 12, 13, 14, 15, 16, 17, 18, 19, 20, 21, 22], [19])])
def pendulumlaw21_GapBursts.B20 : List Nat := [0, 1, 0, 0, 8, 0, 56, 124, 0, 256, 0, 1024, 3840, 8188, 16383, 32767, 65535, 131071, 131071, 131071, 0, 1310719, 3670015, 8388607]
theorem pendulumlaw21_GapBursts.tab20 : rtab .any (opsOf Tryd.f4 20) = pendulumlaw21_GapBursts.T20 := by kernel_rfl
theorem pendulumlaw21_GapBursts.bits20 : waitsOk pendulumlaw21_GapBursts.T20.2 pendulumlaw21_GapBursts.B20 = true := by kernel_rfl

end Go.Proofs.YtefenbhcbpfihaaDoor.Q
