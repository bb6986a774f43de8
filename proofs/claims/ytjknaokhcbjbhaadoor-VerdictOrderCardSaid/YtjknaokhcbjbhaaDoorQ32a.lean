-- Written for this claim by the session's own driver (wip/qprint.py) over the kit's printer, out of the translation. Not trusted: Lean checks it.
import Derived.Test.YtjknaokhcbjbhaaDoorM0
import Derived.Test.YtjknaokhcbjbhaaDoorQ14
import Derived.Test.YtjknaokhcbjbhaaDoorQ20
import Derived.Test.YtjknaokhcbjbhaaDoorQ29
import Derived.Test.YtjknaokhcbjbhaaDoorHlawK
namespace Go.Proofs.YtjknaokhcbjbhaaDoor.Q
open Go.RowKit Go.Proofs.YtjknaokhcbjbhaaDoorW.PrintWords Go.Proofs.YtjknaokhcbjbhaaDoorW.PrintLast Go.Proofs.YtjknaokhcbjbhaaDoorW.PrintMore
attribute [local go_sem] max2_int min2_int max_two min_two max_three min_three max_four min_four   -- for this text's walks alone
set_option linter.unusedVariables false
set_option linter.unusedSimpArgs false

/-! ### pendulumlaw20_VerdictOrder: function 6 -/
mutual
def pendulumlaw20_VerdictOrder.j0 : Nat → Int → Int → Bool → Int → List (S42) → Option (Bool)
 | 0, _, _, _, _, _ => none
 | k + 1, x1, x2, x26, x263000, x263001 => if x26 = true then ((pendulumlaw20_awake.f).bind fun t266 => (some t266)) else (if (x263001.length : Int) = 0 then (none) else ((some (([] : List (S42)) : List (S42))).bind fun y267 => (if 0 ≤ (Int.tmod (wrap64 (x2)) (x263001.length : Int)) then (if (Int.tmod (wrap64 (x2)) (x263001.length : Int)) ≤ (x263001.length : Int) then ((some (x263001.drop ((Int.tmod (wrap64 (x2)) (x263001.length : Int)) : Int).toNat : List (S42))).bind fun y270 => (if y267.length + y270.length < 1466015503701 then ((some (y267 ++ y270 : List (S42))).bind fun y274 => ((some (x263001.take ((Int.tmod (wrap64 (x2)) (x263001.length : Int)) : Int).toNat : List (S42))).bind fun y277 => (if y274.length + y277.length < 1466015503701 then ((some (y274 ++ y277 : List (S42))).bind fun y281 => ((pendulumlaw20_gap.f x1).bind fun t285 => ((verdict_Judge.f k x263000 x263001 t285).bind fun bt286 => ((pendulumlaw20_gap.f x1).bind fun t293 => ((verdict_Judge.f k x263000 y281 t293).bind fun bt294 => (if bt286.2.2.2 = 0 then (if bt294.2.2.2 = 0 then (if (bt286.1 != bt294.1) = true then (pendulumlaw20_VerdictOrder.j1 k (x263001.length : Int) (Int.tmod (wrap64 (x2)) (x263001.length : Int)) true x263000 x263001 x263000 y281 bt286.1 bt286.2.1 bt286.2.2.1 bt294.1 bt294.2.1 bt294.2.2.1) else (if (bt286.2.2.1.length : Int) = (x263001.length : Int) then (pendulumlaw20_VerdictOrder.j1 k (x263001.length : Int) (Int.tmod (wrap64 (x2)) (x263001.length : Int)) ((bt294.2.2.1.length : Int) != (x263001.length : Int)) x263000 x263001 x263000 y281 bt286.1 bt286.2.1 bt286.2.2.1 bt294.1 bt294.2.1 bt294.2.2.1) else (pendulumlaw20_VerdictOrder.j1 k (x263001.length : Int) (Int.tmod (wrap64 (x2)) (x263001.length : Int)) true x263000 x263001 x263000 y281 bt286.1 bt286.2.1 bt286.2.2.1 bt294.1 bt294.2.1 bt294.2.2.1))) else (pendulumlaw20_VerdictOrder.j1 k (x263001.length : Int) (Int.tmod (wrap64 (x2)) (x263001.length : Int)) true x263000 x263001 x263000 y281 bt286.1 bt286.2.1 bt286.2.2.1 bt294.1 bt294.2.1 bt294.2.2.1)) else (pendulumlaw20_VerdictOrder.j1 k (x263001.length : Int) (Int.tmod (wrap64 (x2)) (x263001.length : Int)) true x263000 x263001 x263000 y281 bt286.1 bt286.2.1 bt286.2.2.1 bt294.1 bt294.2.1 bt294.2.2.1))))))) else (none)))) else (none))) else (none)) else (none))))
def pendulumlaw20_VerdictOrder.j1 : Nat → Int → Int → Bool → Int → List (S42) → Int → List (S42) → Bool → Int → List Int → Bool → Int → List Int → Option (Bool)
 | 0, _, _, _, _, _, _, _, _, _, _, _, _, _ => none
 | k + 1, x7, x8, x89, x263000, x263001, x285000, x285001, x293000, x293001, x293002, x301000, x301001, x301002 => if x89 = true then (some false) else (pendulumlaw20_VerdictOrder.l0 k x7 x8 0 x263000 x263001 x285000 x285001 x293000 x293001 x293002 x301000 x301001 x301002)
def pendulumlaw20_VerdictOrder.l0 : Nat → Int → Int → Int → Int → List (S42) → Int → List (S42) → Bool → Int → List Int → Bool → Int → List Int → Option (Bool)
 | 0, _, _, _, _, _, _, _, _, _, _, _, _, _ => none
 | k + 1, x7, x8, x14, x263000, x263001, x285000, x285001, x293000, x293001, x293002, x301000, x301001, x301002 => if x14 < x7 then (if 0 ≤ x14 then (if x14 < (x301002.length : Int) then (if x7 = 0 then (none) else (if 0 ≤ (Int.tmod (wrap64 (x14 + x8)) x7) then (if (Int.tmod (wrap64 (x14 + x8)) x7) < (x293002.length : Int) then (if (rd x301002 x14) = (rd x293002 (Int.tmod (wrap64 (x14 + x8)) x7)) then (pendulumlaw20_VerdictOrder.l0 k x7 x8 (wrap64 (x14 + 1)) x263000 x263001 x285000 x285001 x293000 x293001 x293002 x301000 x301001 x301002) else (some false)) else (none)) else (none))) else (none)) else (none)) else (if x293000 = true then (some true) else (if x293001 ≥ 0 then (if x301001 ≥ 0 then (if 0 ≤ x293001 then (if x293001 < (x263001.length : Int) then (if 0 ≤ x301001 then (if x301001 < (x285001.length : Int) then (some (((rd_T42 x263001 x293001).f0).toList == ((rd_T42 x285001 x301001).f0).toList)) else (none)) else (none)) else (none)) else (none)) else (some false)) else (some false)))
end
def pendulumlaw20_VerdictOrder.f (k : Nat) (a0_0 : Int) (l0_1 : List (S42)) (a1 : Int) (a2 : Int) : Option (Bool) := (pendulumlaw20_awake.f).bind fun t263 => (if t263 = true then ((pendulumref19_Small.f k a0_0 l0_1).bind fun t264 => (if t264 = true then ((pendulumref05_Right.f a0_0 l0_1).bind fun t265 => (pendulumlaw20_VerdictOrder.j0 k a1 a2 (!t265) a0_0 l0_1)) else (pendulumlaw20_VerdictOrder.j0 k a1 a2 true a0_0 l0_1))) else (pendulumlaw20_VerdictOrder.j0 k a1 a2 true a0_0 l0_1))
theorem pendulumlaw20_VerdictOrder.mono_l : ∀ k, (∀ y0 y1 y2 y3 y4, LeO (pendulumlaw20_VerdictOrder.j0 k y0 y1 y2 y3 y4) (pendulumlaw20_VerdictOrder.j0 (k + 1) y0 y1 y2 y3 y4)) ∧ (∀ y0 y1 y2 y3 y4 y5 y6 y7 y8 y9 y10 y11 y12, LeO (pendulumlaw20_VerdictOrder.j1 k y0 y1 y2 y3 y4 y5 y6 y7 y8 y9 y10 y11 y12) (pendulumlaw20_VerdictOrder.j1 (k + 1) y0 y1 y2 y3 y4 y5 y6 y7 y8 y9 y10 y11 y12)) ∧ (∀ y0 y1 y2 y3 y4 y5 y6 y7 y8 y9 y10 y11 y12, LeO (pendulumlaw20_VerdictOrder.l0 k y0 y1 y2 y3 y4 y5 y6 y7 y8 y9 y10 y11 y12) (pendulumlaw20_VerdictOrder.l0 (k + 1) y0 y1 y2 y3 y4 y5 y6 y7 y8 y9 y10 y11 y12))
 | 0 => ⟨fun _ _ _ _ _ r h => by simp [pendulumlaw20_VerdictOrder.j0] at h, fun _ _ _ _ _ _ _ _ _ _ _ _ _ r h => by simp [pendulumlaw20_VerdictOrder.j1] at h, fun _ _ _ _ _ _ _ _ _ _ _ _ _ r h => by simp [pendulumlaw20_VerdictOrder.l0] at h⟩
 | k + 1 => by
  obtain ⟨ih0, ih1, ih2⟩ := pendulumlaw20_VerdictOrder.mono_l k
  refine ⟨?_, ?_, ?_⟩
  ·intro y0 y1 y2 y3 y4
   unfold pendulumlaw20_VerdictOrder.j0
   repeat' first
   | (with_reducible exact ih0 _ _ _ _ _)
   | (with_reducible exact ih1 _ _ _ _ _ _ _ _ _ _ _ _ _)
   | (with_reducible exact ih2 _ _ _ _ _ _ _ _ _ _ _ _ _)
   | (with_reducible exact pendulumref19_Small.mono _ _ _)
   | (with_reducible exact verdict_Judge.mono _ _ _ _)
   | (with_reducible exact LeO.refl _)
   | (with_reducible exact LeO.none _)
   | (with_reducible refine LeO.ite ?_ ?_)
   | (with_reducible refine LeO.bind ?_ (fun _ => ?_))
   | exact ih0 _ _ _ _ _
   | exact ih1 _ _ _ _ _ _ _ _ _ _ _ _ _
   | exact ih2 _ _ _ _ _ _ _ _ _ _ _ _ _
   | exact pendulumref19_Small.mono _ _ _
   | exact verdict_Judge.mono _ _ _ _
   | exact LeO.none _
   | refine LeO.ite ?_ ?_
   | refine LeO.bind ?_ (fun _ => ?_)
  ·intro y0 y1 y2 y3 y4 y5 y6 y7 y8 y9 y10 y11 y12
   unfold pendulumlaw20_VerdictOrder.j1
   repeat' first
   | (with_reducible exact ih0 _ _ _ _ _)
   | (with_reducible exact ih1 _ _ _ _ _ _ _ _ _ _ _ _ _)
   | (with_reducible exact ih2 _ _ _ _ _ _ _ _ _ _ _ _ _)
   | (with_reducible exact pendulumref19_Small.mono _ _ _)
   | (with_reducible exact verdict_Judge.mono _ _ _ _)
   | (with_reducible exact LeO.refl _)
   | (with_reducible exact LeO.none _)
   | (with_reducible refine LeO.ite ?_ ?_)
   | (with_reducible refine LeO.bind ?_ (fun _ => ?_))
   | exact ih0 _ _ _ _ _
   | exact ih1 _ _ _ _ _ _ _ _ _ _ _ _ _
   | exact ih2 _ _ _ _ _ _ _ _ _ _ _ _ _
   | exact pendulumref19_Small.mono _ _ _
   | exact verdict_Judge.mono _ _ _ _
   | exact LeO.none _
   | refine LeO.ite ?_ ?_
   | refine LeO.bind ?_ (fun _ => ?_)
  ·intro y0 y1 y2 y3 y4 y5 y6 y7 y8 y9 y10 y11 y12
   unfold pendulumlaw20_VerdictOrder.l0
   repeat' first
   | (with_reducible exact ih0 _ _ _ _ _)
   | (with_reducible exact ih1 _ _ _ _ _ _ _ _ _ _ _ _ _)
   | (with_reducible exact ih2 _ _ _ _ _ _ _ _ _ _ _ _ _)
   | (with_reducible exact pendulumref19_Small.mono _ _ _)
   | (with_reducible exact verdict_Judge.mono _ _ _ _)
   | (with_reducible exact LeO.refl _)
   | (with_reducible exact LeO.none _)
   | (with_reducible refine LeO.ite ?_ ?_)
   | (with_reducible refine LeO.bind ?_ (fun _ => ?_))
   | exact ih0 _ _ _ _ _
   | exact ih1 _ _ _ _ _ _ _ _ _ _ _ _ _
   | exact ih2 _ _ _ _ _ _ _ _ _ _ _ _ _
   | exact pendulumref19_Small.mono _ _ _
   | exact verdict_Judge.mono _ _ _ _
   | exact LeO.none _
   | refine LeO.ite ?_ ?_
   | refine LeO.bind ?_ (fun _ => ?_)
theorem pendulumlaw20_VerdictOrder.mono : ∀ a0 a1 a2 a3 k, LeO (pendulumlaw20_VerdictOrder.f k a0 a1 a2 a3) (pendulumlaw20_VerdictOrder.f (k + 1) a0 a1 a2 a3) := by
 intro a0 a1 a2 a3 k
 obtain ⟨ih0, ih1, ih2⟩ := pendulumlaw20_VerdictOrder.mono_l k
 unfold pendulumlaw20_VerdictOrder.f
 repeat' first
   | (with_reducible exact ih0 _ _ _ _ _)
   | (with_reducible exact ih1 _ _ _ _ _ _ _ _ _ _ _ _ _)
   | (with_reducible exact ih2 _ _ _ _ _ _ _ _ _ _ _ _ _)
   | (with_reducible exact pendulumref19_Small.mono _ _ _)
   | (with_reducible exact verdict_Judge.mono _ _ _ _)
   | (with_reducible exact LeO.refl _)
   | (with_reducible exact LeO.none _)
   | (with_reducible refine LeO.ite ?_ ?_)
   | (with_reducible refine LeO.bind ?_ (fun _ => ?_))
   | exact ih0 _ _ _ _ _
   | exact ih1 _ _ _ _ _ _ _ _ _ _ _ _ _
   | exact ih2 _ _ _ _ _ _ _ _ _ _ _ _ _
   | exact pendulumref19_Small.mono _ _ _
   | exact verdict_Judge.mono _ _ _ _
   | exact LeO.none _
   | refine LeO.ite ?_ ?_
   | refine LeO.bind ?_ (fun _ => ?_)
def pendulumlaw20_VerdictOrder.T5 : Bool × List (List Nat × List Nat) := (true, [([], []), ([0], [0]), ([], []), ([], []), ([3], [3]), ([], []), ([4, 5], [4, 5]), ([2, 6], [2, 6]), ([], []), ([8], [8]), ([], []), ([9, 10], [9, 10]), ([7, 11, 7], [7, 11]), ([1, 12], [1, 12]), ([], []), ([14, 13, 12, 0, 1, 2, 3, 4, 5, 6, 7, 8, 9, 10, 11, 12, 13, 14], [13, 14])])
def pendulumlaw20_VerdictOrder.B5 : List Nat := [0, 1, 0, 0, 8, 0, 56, 124, 0, 256, 0, 1792, 4092, 8191, 0, 32767]
theorem pendulumlaw20_VerdictOrder.tab5 : rtab .any (opsOf Tryd.f6 5) = pendulumlaw20_VerdictOrder.T5 := by kernel_rfl
theorem pendulumlaw20_VerdictOrder.bits5 : waitsOk pendulumlaw20_VerdictOrder.T5.2 pendulumlaw20_VerdictOrder.B5 = true := by kernel_rfl
def pendulumlaw20_VerdictOrder.T6 : Bool × List (List Nat × List Nat) := (true, [([], []), ([], []), ([1], [1]), ([0, 2, 2], [0, 2]), ([3], [3]), ([4], [4]), ([4], [4]), ([], []), ([7, 5, 3, 0, 1, 2, 3, 4, 5, 7], [5, 7]), ([6, 8, 0, 1, 2, 3, 4, 5, 6, 7, 8], [6])])
def pendulumlaw20_VerdictOrder.B6 : List Nat := [0, 0, 2, 7, 15, 31, 31, 0, 191, 511]
theorem pendulumlaw20_VerdictOrder.tab6 : rtab .any (opsOf Tryd.f6 6) = pendulumlaw20_VerdictOrder.T6 := by kernel_rfl
theorem pendulumlaw20_VerdictOrder.bits6 : waitsOk pendulumlaw20_VerdictOrder.T6.2 pendulumlaw20_VerdictOrder.B6 = true := by kernel_rfl
def pendulumlaw20_VerdictOrder.T7 : Bool × List (List Nat × List Nat) := (true, [([], []), ([], []), ([1], [1]), ([0, 2, 2], [0, 2]), ([3], [3]), ([4], [4]), ([4], [4]), ([], []), ([7, 5, 3, 0, 1, 2, 3, 4, 5, 7], [5, 7]), ([6, 8, 0, 1, 2, 3, 4, 5, 6, 7, 8], [6])])
def pendulumlaw20_VerdictOrder.B7 : List Nat := [0, 0, 2, 7, 15, 31, 31, 0, 191, 511]
theorem pendulumlaw20_VerdictOrder.tab7 : rtab .any (opsOf Tryd.f6 7) = pendulumlaw20_VerdictOrder.T7 := by kernel_rfl
theorem pendulumlaw20_VerdictOrder.bits7 : waitsOk pendulumlaw20_VerdictOrder.T7.2 pendulumlaw20_VerdictOrder.B7 = true := by kernel_rfl
def pendulumlaw20_VerdictOrder.T13 : Bool × List (List Nat × List Nat) := (true, [([], []), ([0], [0]), ([], []), ([1, 2], [1, 2]), ([3], [3]), ([], []), ([5], [5]), ([], []), ([], []), ([7, 8], [7, 8]), ([], []), ([9, 10], [9, 10]), ([6, 11], [6, 11]), ([12], [12]), ([4, 13], [4, 13])])
def pendulumlaw20_VerdictOrder.B13 : List Nat := [0, 1, 0, 7, 15, 0, 32, 0, 0, 384, 0, 1920, 4064, 8160, 16383]
theorem pendulumlaw20_VerdictOrder.tab13 : rtab .any (opsOf Tryd.f6 13) = pendulumlaw20_VerdictOrder.T13 := by kernel_rfl
theorem pendulumlaw20_VerdictOrder.bits13 : waitsOk pendulumlaw20_VerdictOrder.T13.2 pendulumlaw20_VerdictOrder.B13 = true := by kernel_rfl
def pendulumlaw20_VerdictOrder.T15 : Bool × List (List Nat × List Nat) := (true, [([], []), ([0], [0]), ([1], [1]), ([2], [2]), ([3, 2], [2, 3]), ([4, 2], [2, 4]), ([5, 2, 2], [2, 5]), ([6], [6]), ([7, 6], [6, 7]), ([8, 6], [6, 8]), ([6, 9, 2], [2, 6, 9]), ([10, 6, 2], [2, 10]), ([11], [11]), ([12, 11], [11, 12]), ([11], [11]), ([14, 11], [11, 14]), ([13, 15, 11], [11, 13, 15]), ([16, 11], [11, 16]), ([17, 11], [11, 17]), ([11], [11]), ([19, 11], [11, 19]), ([11], [11]), ([21, 11], [11, 21]), ([20, 22, 11], [11, 20, 22]), ([23, 11], [11, 23]), ([24, 11], [11, 24]), ([18, 25, 11], [11, 18, 25]), ([11, 26, 2], [2, 11, 26]), ([2, 27], [2, 27]), ([28, 11, 0, 1, 2, 3, 4, 5, 6, 7, 8, 9, 10, 11, 12, 13, 14, 15, 16, 17, 18, 19, 20, 21, 22, 23, 24, 25, 26, 27, 28], [28])])
def pendulumlaw20_VerdictOrder.B15 : List Nat := [0, 1, 3, 7, 15, 31, 63, 127, 255, 511, 1023, 2047, 4095, 8191, 4095, 20479, 65535, 131071, 262143, 4095, 528383, 4095, 2101247, 7868415, 16257023, 33034239, 67108863, 134217727, 268435455, 536870911]
theorem pendulumlaw20_VerdictOrder.tab15 : rtab .any (opsOf Tryd.f6 15) = pendulumlaw20_VerdictOrder.T15 := by kernel_rfl
theorem pendulumlaw20_VerdictOrder.bits15 : waitsOk pendulumlaw20_VerdictOrder.T15.2 pendulumlaw20_VerdictOrder.B15 = true := by kernel_rfl

end Go.Proofs.YtjknaokhcbjbhaaDoor.Q
