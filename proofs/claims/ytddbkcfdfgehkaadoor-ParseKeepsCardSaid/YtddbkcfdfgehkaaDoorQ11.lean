-- Written for this claim by the session's own driver (wip/qprint.py) over the kit's printer, out of the translation. Not trusted: Lean checks it.
import Derived.Test.YtddbkcfdfgehkaaDoorM0
import Derived.Test.YtddbkcfdfgehkaaDoorQ10
namespace Go.Proofs.YtddbkcfdfgehkaaDoor.Q
open Go.RowKit Go.Proofs.YtddbkcfdfgehkaaDoorW.PrintWords Go.Proofs.YtddbkcfdfgehkaaDoorW.PrintLast Go.Proofs.YtddbkcfdfgehkaaDoorW.PrintMore
attribute [local go_sem] max2_int min2_int max_two min_two max_three min_three max_four min_four   -- for this text's walks alone
set_option linter.unusedVariables false
set_option linter.unusedSimpArgs false

/-! ### pendulumref04_Tokens: function 22 -/
mutual
def pendulumref04_Tokens.l0 : Nat → List Int → List (S46) → Int → Int → Int → Option ((List (S46)) × Int × Int × Int)
 | 0, _, _, _, _, _ => none
 | k + 1, x0, x4, x5, x6, x7 => if x7 < (x0.length : Int) then (if 0 ≤ x7 then ((pendulumref04_kind.f k (rd x0 x7)).bind fun t122 => (if t122 = 1 then (pendulumref04_Tokens.l1 k x0 x4 x5 x6 x7 (wrap64 ((wrap64 (x7 - x6)) + 1)) (wrap64 (x7 + 1))) else (if t122 = 2 then (pendulumref04_Tokens.l2 k x0 x4 x5 x6 x7 (wrap64 ((wrap64 (x7 - x6)) + 1)) (wrap64 (x7 + 1))) else (if t122 = 5 then (if x4.length < 2932031007402 then (pendulumref04_Tokens.l0 k x0 (x4 ++ [(⟨3, (⟨#[]⟩ : ByteArray), 0, x5, wrap64 ((wrap64 (x7 - x6)) + 1)⟩ : S46)]) (wrap64 (x5 + 1)) (wrap64 (x7 + 1)) (wrap64 (x7 + 1))) else (none)) else (if t122 = 6 then (pendulumref04_Tokens.l3 k x0 x4 x5 x6 (wrap64 (x7 + 1))) else (if t122 = 4 then (pendulumref04_Tokens.l0 k x0 x4 x5 x6 (wrap64 (x7 + 1))) else (some (([] : List (S46)), 5, x5, wrap64 ((wrap64 (x7 - x6)) + 1))))))))) else (none)) else (if x4.length < 2932031007402 then (some ((x4 ++ [(⟨4, (⟨#[]⟩ : ByteArray), 0, x5, wrap64 ((wrap64 ((x0.length : Int) - x6)) + 1)⟩ : S46)]), 0, 0, 0)) else (none))
def pendulumref04_Tokens.l1 : Nat → List Int → List (S46) → Int → Int → Int → Int → Int → Option ((List (S46)) × Int × Int × Int)
 | 0, _, _, _, _, _, _, _ => none
 | k + 1, x0, x4, x5, x6, x7, x8, x10 => if x10 < (x0.length : Int) then (if 0 ≤ x10 then ((pendulumref04_kind.f k (rd x0 x10)).bind fun t124 => (if t124 ≥ 1 then ((pendulumref04_kind.f k (rd x0 x10)).bind fun t126 => (if t126 ≤ 3 then (pendulumref04_Tokens.l1 k x0 x4 x5 x6 x7 x8 (wrap64 (x10 + 1))) else (if 0 ≤ x7 then (if x7 ≤ x10 then (if x10 ≤ (x0.length : Int) then (if x4.length < 2932031007402 then (pendulumref04_Tokens.l0 k x0 (x4 ++ [(⟨1, strOfNums ((x0.take (x10 : Int).toNat).drop (x7 : Int).toNat), 0, x5, x8⟩ : S46)]) x5 x6 x10) else (none)) else (none)) else (none)) else (none)))) else (if 0 ≤ x7 then (if x7 ≤ x10 then (if x10 ≤ (x0.length : Int) then (if x4.length < 2932031007402 then (pendulumref04_Tokens.l0 k x0 (x4 ++ [(⟨1, strOfNums ((x0.take (x10 : Int).toNat).drop (x7 : Int).toNat), 0, x5, x8⟩ : S46)]) x5 x6 x10) else (none)) else (none)) else (none)) else (none)))) else (none)) else (if 0 ≤ x7 then (if x7 ≤ x10 then (if x10 ≤ (x0.length : Int) then (if x4.length < 2932031007402 then (pendulumref04_Tokens.l0 k x0 (x4 ++ [(⟨1, strOfNums ((x0.take (x10 : Int).toNat).drop (x7 : Int).toNat), 0, x5, x8⟩ : S46)]) x5 x6 x10) else (none)) else (none)) else (none)) else (none))
def pendulumref04_Tokens.l2 : Nat → List Int → List (S46) → Int → Int → Int → Int → Int → Option ((List (S46)) × Int × Int × Int)
 | 0, _, _, _, _, _, _, _ => none
 | k + 1, x0, x4, x5, x6, x7, x8, x10 => if x10 < (x0.length : Int) then (if 0 ≤ x10 then ((pendulumref04_kind.f k (rd x0 x10)).bind fun t140 => (if t140 = 2 then (pendulumref04_Tokens.l2 k x0 x4 x5 x6 x7 x8 (wrap64 (x10 + 1))) else (if 0 ≤ x7 then (if x7 ≤ x10 then (if x10 ≤ (x0.length : Int) then ((pendulumref04_Value.f k (strOfNums ((x0.take (x10 : Int).toNat).drop (x7 : Int).toNat))).bind fun bt142 => (if bt142.2 = true then (if x4.length < 2932031007402 then (pendulumref04_Tokens.l0 k x0 (x4 ++ [(⟨2, strOfNums ((x0.take (x10 : Int).toNat).drop (x7 : Int).toNat), bt142.1, x5, x8⟩ : S46)]) x5 x6 x10) else (none)) else (some (([] : List (S46)), 2, x5, x8)))) else (none)) else (none)) else (none)))) else (none)) else (if 0 ≤ x7 then (if x7 ≤ x10 then (if x10 ≤ (x0.length : Int) then ((pendulumref04_Value.f k (strOfNums ((x0.take (x10 : Int).toNat).drop (x7 : Int).toNat))).bind fun bt149 => (if bt149.2 = true then (if x4.length < 2932031007402 then (pendulumref04_Tokens.l0 k x0 (x4 ++ [(⟨2, strOfNums ((x0.take (x10 : Int).toNat).drop (x7 : Int).toNat), bt149.1, x5, x8⟩ : S46)]) x5 x6 x10) else (none)) else (some (([] : List (S46)), 2, x5, x8)))) else (none)) else (none)) else (none))
def pendulumref04_Tokens.l3 : Nat → List Int → List (S46) → Int → Int → Int → Option ((List (S46)) × Int × Int × Int)
 | 0, _, _, _, _, _ => none
 | k + 1, x0, x4, x5, x6, x10 => if x10 < (x0.length : Int) then (if 0 ≤ x10 then ((pendulumref04_kind.f k (rd x0 x10)).bind fun t159 => (if t159 = 5 then (pendulumref04_Tokens.l0 k x0 x4 x5 x6 x10) else (pendulumref04_Tokens.l3 k x0 x4 x5 x6 (wrap64 (x10 + 1))))) else (none)) else (pendulumref04_Tokens.l0 k x0 x4 x5 x6 x10)
end
def pendulumref04_Tokens.f (k : Nat) (l0 : List Int) : Option ((List (S46)) × Int × Int × Int) := pendulumref04_Tokens.l0 k l0 ([] : List (S46)) 1 0 0
theorem pendulumref04_Tokens.mono_l : ∀ k, (∀ y0 y1 y2 y3 y4, LeO (pendulumref04_Tokens.l0 k y0 y1 y2 y3 y4) (pendulumref04_Tokens.l0 (k + 1) y0 y1 y2 y3 y4)) ∧ (∀ y0 y1 y2 y3 y4 y5 y6, LeO (pendulumref04_Tokens.l1 k y0 y1 y2 y3 y4 y5 y6) (pendulumref04_Tokens.l1 (k + 1) y0 y1 y2 y3 y4 y5 y6)) ∧ (∀ y0 y1 y2 y3 y4 y5 y6, LeO (pendulumref04_Tokens.l2 k y0 y1 y2 y3 y4 y5 y6) (pendulumref04_Tokens.l2 (k + 1) y0 y1 y2 y3 y4 y5 y6)) ∧ (∀ y0 y1 y2 y3 y4, LeO (pendulumref04_Tokens.l3 k y0 y1 y2 y3 y4) (pendulumref04_Tokens.l3 (k + 1) y0 y1 y2 y3 y4))
 | 0 => ⟨fun _ _ _ _ _ r h => by simp [pendulumref04_Tokens.l0] at h, fun _ _ _ _ _ _ _ r h => by simp [pendulumref04_Tokens.l1] at h, fun _ _ _ _ _ _ _ r h => by simp [pendulumref04_Tokens.l2] at h, fun _ _ _ _ _ r h => by simp [pendulumref04_Tokens.l3] at h⟩
 | k + 1 => by
  obtain ⟨ih0, ih1, ih2, ih3⟩ := pendulumref04_Tokens.mono_l k
  refine ⟨?_, ?_, ?_, ?_⟩
  ·intro y0 y1 y2 y3 y4
   unfold pendulumref04_Tokens.l0
   repeat' first
   | (with_reducible exact ih0 _ _ _ _ _)
   | (with_reducible exact ih1 _ _ _ _ _ _ _)
   | (with_reducible exact ih2 _ _ _ _ _ _ _)
   | (with_reducible exact ih3 _ _ _ _ _)
   | (with_reducible exact pendulumref04_Value.mono _ _)
   | (with_reducible exact pendulumref04_kind.mono _ _)
   | (with_reducible exact LeO.refl _)
   | (with_reducible exact LeO.none _)
   | (with_reducible refine LeO.ite ?_ ?_)
   | (with_reducible refine LeO.bind ?_ (fun _ => ?_))
   | exact ih0 _ _ _ _ _
   | exact ih1 _ _ _ _ _ _ _
   | exact ih2 _ _ _ _ _ _ _
   | exact ih3 _ _ _ _ _
   | exact pendulumref04_Value.mono _ _
   | exact pendulumref04_kind.mono _ _
   | exact LeO.none _
   | refine LeO.ite ?_ ?_
   | refine LeO.bind ?_ (fun _ => ?_)
  ·intro y0 y1 y2 y3 y4 y5 y6
   unfold pendulumref04_Tokens.l1
   repeat' first
   | (with_reducible exact ih0 _ _ _ _ _)
   | (with_reducible exact ih1 _ _ _ _ _ _ _)
   | (with_reducible exact ih2 _ _ _ _ _ _ _)
   | (with_reducible exact ih3 _ _ _ _ _)
   | (with_reducible exact pendulumref04_Value.mono _ _)
   | (with_reducible exact pendulumref04_kind.mono _ _)
   | (with_reducible exact LeO.refl _)
   | (with_reducible exact LeO.none _)
   | (with_reducible refine LeO.ite ?_ ?_)
   | (with_reducible refine LeO.bind ?_ (fun _ => ?_))
   | exact ih0 _ _ _ _ _
   | exact ih1 _ _ _ _ _ _ _
   | exact ih2 _ _ _ _ _ _ _
   | exact ih3 _ _ _ _ _
   | exact pendulumref04_Value.mono _ _
   | exact pendulumref04_kind.mono _ _
   | exact LeO.none _
   | refine LeO.ite ?_ ?_
   | refine LeO.bind ?_ (fun _ => ?_)
  ·intro y0 y1 y2 y3 y4 y5 y6
   unfold pendulumref04_Tokens.l2
   repeat' first
   | (with_reducible exact ih0 _ _ _ _ _)
   | (with_reducible exact ih1 _ _ _ _ _ _ _)
   | (with_reducible exact ih2 _ _ _ _ _ _ _)
   | (with_reducible exact ih3 _ _ _ _ _)
   | (with_reducible exact pendulumref04_Value.mono _ _)
   | (with_reducible exact pendulumref04_kind.mono _ _)
   | (with_reducible exact LeO.refl _)
   | (with_reducible exact LeO.none _)
   | (with_reducible refine LeO.ite ?_ ?_)
   | (with_reducible refine LeO.bind ?_ (fun _ => ?_))
   | exact ih0 _ _ _ _ _
   | exact ih1 _ _ _ _ _ _ _
   | exact ih2 _ _ _ _ _ _ _
   | exact ih3 _ _ _ _ _
   | exact pendulumref04_Value.mono _ _
   | exact pendulumref04_kind.mono _ _
   | exact LeO.none _
   | refine LeO.ite ?_ ?_
   | refine LeO.bind ?_ (fun _ => ?_)
  ·intro y0 y1 y2 y3 y4
   unfold pendulumref04_Tokens.l3
   repeat' first
   | (with_reducible exact ih0 _ _ _ _ _)
   | (with_reducible exact ih1 _ _ _ _ _ _ _)
   | (with_reducible exact ih2 _ _ _ _ _ _ _)
   | (with_reducible exact ih3 _ _ _ _ _)
   | (with_reducible exact pendulumref04_Value.mono _ _)
   | (with_reducible exact pendulumref04_kind.mono _ _)
   | (with_reducible exact LeO.refl _)
   | (with_reducible exact LeO.none _)
   | (with_reducible refine LeO.ite ?_ ?_)
   | (with_reducible refine LeO.bind ?_ (fun _ => ?_))
   | exact ih0 _ _ _ _ _
   | exact ih1 _ _ _ _ _ _ _
   | exact ih2 _ _ _ _ _ _ _
   | exact ih3 _ _ _ _ _
   | exact pendulumref04_Value.mono _ _
   | exact pendulumref04_kind.mono _ _
   | exact LeO.none _
   | refine LeO.ite ?_ ?_
   | refine LeO.bind ?_ (fun _ => ?_)
theorem pendulumref04_Tokens.mono : ∀ a0 k, LeO (pendulumref04_Tokens.f k a0) (pendulumref04_Tokens.f (k + 1) a0) := by
 intro a0 k
 obtain ⟨ih0, ih1, ih2, ih3⟩ := pendulumref04_Tokens.mono_l k
 unfold pendulumref04_Tokens.f
 repeat' first
   | (with_reducible exact ih0 _ _ _ _ _)
   | (with_reducible exact ih1 _ _ _ _ _ _ _)
   | (with_reducible exact ih2 _ _ _ _ _ _ _)
   | (with_reducible exact ih3 _ _ _ _ _)
   | (with_reducible exact pendulumref04_Value.mono _ _)
   | (with_reducible exact pendulumref04_kind.mono _ _)
   | (with_reducible exact LeO.refl _)
   | (with_reducible exact LeO.none _)
   | (with_reducible refine LeO.ite ?_ ?_)
   | (with_reducible refine LeO.bind ?_ (fun _ => ?_))
   | exact ih0 _ _ _ _ _
   | exact ih1 _ _ _ _ _ _ _
   | exact ih2 _ _ _ _ _ _ _
   | exact ih3 _ _ _ _ _
   | exact pendulumref04_Value.mono _ _
   | exact pendulumref04_kind.mono _ _
   | exact LeO.none _
   | refine LeO.ite ?_ ?_
   | refine LeO.bind ?_ (fun _ => ?_)
set_option maxHeartbeats 8000000 in
set_option maxRecDepth 100000 in
theorem pendulumref04_Tokens.calls (k : Nat) (A0 : Option Addr) (c0 : Nat) (l0 : List Int) (r1 : List (S46)) (r2 : Int) (r3 : Int) (r4 : Int) (w : World) (hr0 : Kd.C (Kd.int .u8) w A0 l0.length l0) (hc0 : l0.length ≤ c0) (h : pendulumref04_Tokens.f k l0 = some (r1, r2, r3, r4)) :
  Calls Tryd.prog 22 #[.slice A0 l0.length c0] w fun e w' => ∃ v0_ : Value, e = .returned (.tuple #[v0_, .agg #[.int .i64 r2, .int .i64 r3, .int .i64 r4]]) ∧ Kd.R k46 46 w' w.heap.size (fun _ => True) v0_ r1 ∧ Below w.heap.size w w' := by
 have hu29 := Tryd.underlying29
 have hu46 := Tryd.underlying46
 have HR0 := Aside0.mk hr0
 have HC0 := Aside0.mk hc0
 clear hr0 hc0
 have HB := Aside0.mk (Below.refl w.heap.size w)
 have H : (pendulumref04_Tokens.l0 k l0 ([] : List (S46)) 1 0 0) = some (r1, r2, r3, r4) := h
 clear h
 have H' := Aside0.mk H
 clear H
 go_enter Tryd.func22, Tryd.ntmps22
 go_wp2_with (first | ((with_reducible refine gate_dst (N := 3) rfl ?_); refine box_event ?hg (N := 3) ?hd (cs := #[.int .i64 0, .int .i64 0, .int .i64 0]) (t := 29) ?hr ?_; (case hd => rfl); (case hg => rfl); (case hr => first | (go_simp; done) | (go_simp; rfl)); intro gb117 hg w2 hbox hb; have n0_ := Aside0.mk (below_step (by repeat (first | (with_reducible first | exact HB.out | apply below_alloc | apply pw_below_drewN | apply below_drew1) | exact HB.out)) hb); have n1_ := Aside0.mk (hbox); have n2_ := Aside0.mk ((by rw [hg]; exact (below_size (by repeat (first | (with_reducible first | exact HB.out | apply below_alloc | apply pw_below_drewN | apply below_drew1) | exact HB.out))) : w.heap.size ≤ gb117)); have n3_ := Aside0.mk ((by rw [hg]; exact (below_size (by repeat (first | (with_reducible first | exact HB.out | apply below_alloc | apply pw_below_drewN | apply below_drew1) | exact HB.out))) : w.heap.size ≤ gb117)); clear HB; have HB := n0_; have BK117 := n1_; have GW117 := n2_; have GE117 := n3_; clear n0_ n1_ n2_ n3_; clear hb hbox hg))
 go_loopg [4, 5, 6, 7] k (fun kq v4 v5 v6 v7 w' => ∃ (x4_1 : List (S46)) (x5_1 : Int) (x6_1 : Int) (x7_1 : Int) (x118000_1 : Int) (x118001_1 : Int) (x118002_1 : Int), v5 = .int .i64 x5_1 ∧ v6 = .int .i64 x6_1 ∧ v7 = .int .i64 x7_1 ∧ Aside0 (pendulumref04_Tokens.l0 kq l0 x4_1 x5_1 x6_1 x7_1 = some (r1, r2, r3, r4)) ∧ Aside0 (kq ≤ k) ∧ Aside0 (Kd.R k46 46 w' w.heap.size (fun _ => True) v4 x4_1) ∧ Aside0 (w'.heap[gb117]? = some (.cells #[.int .i64 x118000_1, .int .i64 x118001_1, .int .i64 x118002_1] 29 (0, 0))) ∧ Aside0 (Below w.heap.size w w'))
 case atStart => exact ⟨(([] : List (S46))), (1), (0), (0), (0), (0), (0), (by first | rfl | (simp; done) | (simp [*]; done)), (by first | rfl | (simp; done) | (simp [*]; done)), (by first | rfl | (simp; done) | (simp [*]; done)), H', ⟨Nat.le_refl _⟩, ⟨by first | exact Kd.R_nil _ _ _ _ _ | exact Kd.N_nil _ _ _ _ _ | exact Kd.V_nil _ _ _ _ _ | exact Kd.Q_nil _ _ _ _ _ | exact Kd.S_nil _ _ _ _ _⟩, ⟨by (with_reducible repeat (first | refine blk_drewN ?_ _ | refine blk_drew ?_ | refine blk_alloc ?_ _)); exact BK117.out⟩, ⟨by repeat (first | (with_reducible first | exact HB.out | apply below_alloc | apply pw_below_drewN | apply below_drew1 | refine below_set ?_ GE117.out) | exact HB.out)⟩⟩
 case round =>
  clear H'
  try clear c2
  try clear p2
  obtain ⟨x4_1, x5_1, x6_1, x7_1, x118000_1, x118001_1, x118002_1, rfl, rfl, rfl, HA, HK1, HO_4, BK117, HB⟩ := hrel
  cases gk with
  | zero => exact absurd HA.out (by simp [pendulumref04_Tokens.l0])
  | succ k1 =>
   have H := HA.out
   clear HA
   simp only [pendulumref04_Tokens.l0] at H
   by_cases c3 : x7_1 < (l0.length : Int)
   ·rw [if_pos c3] at H
    have c3b0 : decide (x7_1 < (l0.length : Int)) = true := decide_eq_true c3
    clear c3
    by_cases c4 : 0 ≤ x7_1
    ·rw [if_pos c4] at H
     have c4b0 : decide (0 ≤ x7_1) = true := decide_eq_true c4
     clear c4
     replace H := Option.bind_eq_some_iff.mp H
     obtain ⟨t122, A50, H⟩ := H
     replace H : (if t122 = 1 then (pendulumref04_Tokens.l1 k1 l0 x4_1 x5_1 x6_1 x7_1 (wrap64 ((wrap64 (x7_1 - x6_1)) + 1)) (wrap64 (x7_1 + 1))) else (if t122 = 2 then (pendulumref04_Tokens.l2 k1 l0 x4_1 x5_1 x6_1 x7_1 (wrap64 ((wrap64 (x7_1 - x6_1)) + 1)) (wrap64 (x7_1 + 1))) else (if t122 = 5 then (if x4_1.length < 2932031007402 then (pendulumref04_Tokens.l0 k1 l0 (x4_1 ++ [(⟨3, (⟨#[]⟩ : ByteArray), 0, x5_1, wrap64 ((wrap64 (x7_1 - x6_1)) + 1)⟩ : S46)]) (wrap64 (x5_1 + 1)) (wrap64 (x7_1 + 1)) (wrap64 (x7_1 + 1))) else (none)) else (if t122 = 6 then (pendulumref04_Tokens.l3 k1 l0 x4_1 x5_1 x6_1 (wrap64 (x7_1 + 1))) else (if t122 = 4 then (pendulumref04_Tokens.l0 k1 l0 x4_1 x5_1 x6_1 (wrap64 (x7_1 + 1))) else (some (([] : List (S46)), 5, x5_1, wrap64 ((wrap64 (x7_1 - x6_1)) + 1)))))))) = some (r1, r2, r3, r4) := H
     have A5 := Aside0.mk A50
     clear A50
     by_cases c6 : t122 = 1
     ·rw [if_pos c6] at H
      have c6b0 : (t122 == 1) = true := beq_iff_eq.mpr c6
      have c6b1 : (t122 != 1) = false := bne_eq_false_iff_eq.mpr c6
      clear c6
      have H' := Aside0.mk H
      clear H
      have p121 : 0 ≤ (x7_1 : Int) := of_decide_eq_true (by first | (with_reducible assumption) | assumption)
      have q121 : x7_1 < (l0.length : Int) := of_decide_eq_true (by first | (with_reducible assumption) | assumption)
      obtain ⟨ad121, e121, hx121_0⟩ := Kd.at_int HR0.out x7_1 p121 q121
      cases e121
      replace hx121_0 := (HB.out.cell (World.block_lt_of_cell? w _ hx121_0)).trans hx121_0
      replace p121 := eq_true p121
      replace q121 := eq_true q121
      go_wp2_with (first | ((with_reducible refine gate_callee (f := 35) rfl ?_); refine goesL_ (some 25) rfl rfl Tryd.func35 (by kernel_rfl) rfl #[.int .u8 (rd l0 x7_1)] rfl (by (try simp only [List.map_toArray, List.map_cons, List.map_nil]); first | done | rfl | (simp only [List.length_drop, List.length_take]; rfl)) ?_; (with_reducible refine (pendulumref04_kind.calls k1 (rd l0 x7_1) t122 _ A5.out).mono ?_); rintro e w' ⟨rfl, ⟨nd, rfl⟩⟩; refine ⟨_, rfl, ?_⟩))
      go_loopg [10] k1 (fun kq v10 w' => ∃ (x10_2 : Int), v10 = .int .i64 x10_2 ∧ Aside0 (pendulumref04_Tokens.l1 kq l0 x4_1 x5_1 x6_1 x7_1 (wrap64 ((wrap64 (x7_1 - x6_1)) + 1)) x10_2 = some (r1, r2, r3, r4)) ∧ Aside0 (kq ≤ k1) ∧ Aside0 (Kd.R k46 46 w' w.heap.size (fun _ => True) u4 x4_1) ∧ Aside0 (w'.heap[gb117]? = some (.cells #[.int .i64 x118000_1, .int .i64 x118001_1, .int .i64 x118002_1] 29 (0, 0))) ∧ Aside0 (Below w.heap.size w w'))
      case atStart => exact ⟨(wrap64 (x7_1 + 1)), (by first | rfl | (simp; done) | (simp [*]; done)), H', ⟨Nat.le_refl _⟩, ⟨by (with_reducible repeat (first | apply Kd.R_alloc | apply Kd.R_drewN | apply Kd.R_drew)); exact HO_4.out⟩, ⟨by (with_reducible repeat (first | refine blk_drewN ?_ _ | refine blk_drew ?_ | refine blk_alloc ?_ _)); exact BK117.out⟩, ⟨by repeat (first | (with_reducible first | exact HB.out | apply below_alloc | apply pw_below_drewN | apply below_drew1 | refine below_set ?_ GE117.out) | exact HB.out)⟩⟩
      case round =>
       clear H'
       try clear p1
       try clear q1
       try clear hx1
       try clear c2
       try clear p2
       try clear c3
       try clear c3b0
       try clear c4
       try clear c4b0
       try clear c6
       try clear c6b0
       try clear c6b1
       try clear p6
       try clear hx121_0
       try clear p121
       try clear p2
       try clear q121
       obtain ⟨x10_2, rfl, HA, HK2, HO_4, BK117, HB⟩ := hrel
       cases gk with
       | zero => exact absurd HA.out (by simp [pendulumref04_Tokens.l1])
       | succ k2 =>
        have H := HA.out
        clear HA
        simp only [pendulumref04_Tokens.l1] at H
        by_cases c7 : x10_2 < (l0.length : Int)
        ·rw [if_pos c7] at H
         have c7b0 : decide (x10_2 < (l0.length : Int)) = true := decide_eq_true c7
         clear c7
         by_cases c8 : 0 ≤ x10_2
         ·rw [if_pos c8] at H
          have c8b0 : decide (0 ≤ x10_2) = true := decide_eq_true c8
          clear c8
          replace H := Option.bind_eq_some_iff.mp H
          obtain ⟨t124, A90, H⟩ := H
          replace H : (if t124 ≥ 1 then ((pendulumref04_kind.f k2 (rd l0 x10_2)).bind fun t126 => (if t126 ≤ 3 then (pendulumref04_Tokens.l1 k2 l0 x4_1 x5_1 x6_1 x7_1 (wrap64 ((wrap64 (x7_1 - x6_1)) + 1)) (wrap64 (x10_2 + 1))) else (if 0 ≤ x7_1 then (if x7_1 ≤ x10_2 then (if x10_2 ≤ (l0.length : Int) then (if x4_1.length < 2932031007402 then (pendulumref04_Tokens.l0 k2 l0 (x4_1 ++ [(⟨1, strOfNums ((l0.take (x10_2 : Int).toNat).drop (x7_1 : Int).toNat), 0, x5_1, (wrap64 ((wrap64 (x7_1 - x6_1)) + 1))⟩ : S46)]) x5_1 x6_1 x10_2) else (none)) else (none)) else (none)) else (none)))) else (if 0 ≤ x7_1 then (if x7_1 ≤ x10_2 then (if x10_2 ≤ (l0.length : Int) then (if x4_1.length < 2932031007402 then (pendulumref04_Tokens.l0 k2 l0 (x4_1 ++ [(⟨1, strOfNums ((l0.take (x10_2 : Int).toNat).drop (x7_1 : Int).toNat), 0, x5_1, (wrap64 ((wrap64 (x7_1 - x6_1)) + 1))⟩ : S46)]) x5_1 x6_1 x10_2) else (none)) else (none)) else (none)) else (none))) = some (r1, r2, r3, r4) := H
          have A9 := Aside0.mk A90
          clear A90
          by_cases c10 : t124 ≥ 1
          ·rw [if_pos c10] at H
           have c10b0 : decide (1 ≤ t124) = true := decide_eq_true c10
           clear c10
           replace H := Option.bind_eq_some_iff.mp H
           obtain ⟨t126, A110, H⟩ := H
           replace H : (if t126 ≤ 3 then (pendulumref04_Tokens.l1 k2 l0 x4_1 x5_1 x6_1 x7_1 (wrap64 ((wrap64 (x7_1 - x6_1)) + 1)) (wrap64 (x10_2 + 1))) else (if 0 ≤ x7_1 then (if x7_1 ≤ x10_2 then (if x10_2 ≤ (l0.length : Int) then (if x4_1.length < 2932031007402 then (pendulumref04_Tokens.l0 k2 l0 (x4_1 ++ [(⟨1, strOfNums ((l0.take (x10_2 : Int).toNat).drop (x7_1 : Int).toNat), 0, x5_1, (wrap64 ((wrap64 (x7_1 - x6_1)) + 1))⟩ : S46)]) x5_1 x6_1 x10_2) else (none)) else (none)) else (none)) else (none))) = some (r1, r2, r3, r4) := H
           have A11 := Aside0.mk A110
           clear A110
           by_cases c12 : t126 ≤ 3
           ·rw [if_pos c12] at H
            have c12b0 : decide (t126 ≤ 3) = true := decide_eq_true c12
            clear c12
            have H' := Aside0.mk H
            clear H
            have p123 : 0 ≤ (x10_2 : Int) := of_decide_eq_true (by first | (with_reducible assumption) | assumption)
            have q123 : x10_2 < (l0.length : Int) := of_decide_eq_true (by first | (with_reducible assumption) | assumption)
            obtain ⟨ad123, e123, hx123_0⟩ := Kd.at_int HR0.out x10_2 p123 q123
            obtain rfl : ad121 = ad123 := (by injection e123)
            replace hx123_0 := (HB.out.cell (World.block_lt_of_cell? w _ hx123_0)).trans hx123_0
            replace p123 := eq_true p123
            replace q123 := eq_true q123
            go_wp2_with (first | (go_at_call 35; (with_reducible refine (pendulumref04_kind.calls k2 (rd l0 x10_2) t124 _ A9.out).mono ?_); rintro e w' ⟨rfl, ⟨nd, rfl⟩⟩; have p125 : 0 ≤ (x10_2 : Int) := of_decide_eq_true (by first | (with_reducible assumption) | assumption); have q125 : x10_2 < (l0.length : Int) := of_decide_eq_true (by first | (with_reducible assumption) | assumption); obtain ⟨ad125, e125, hx125_0⟩ := Kd.at_int HR0.out x10_2 p125 q125; obtain rfl : ad121 = ad125 := (by injection e125); replace hx125_0 := (HB.out.cell (World.block_lt_of_cell? w _ hx125_0)).trans hx125_0; replace p125 := eq_true p125; replace q125 := eq_true q125; (try clear A9)) | (go_at_call 35; (with_reducible refine (pendulumref04_kind.calls k2 (rd l0 x10_2) t126 _ A11.out).mono ?_); rintro e w' ⟨rfl, ⟨nd, rfl⟩⟩))
            go_roundg k2
            case measure => have := HK1.out; have := HK2.out; omega
            case rel => exact ⟨(wrap64 (x10_2 + 1)), (by first | rfl | (simp; done) | (simp [*]; done)), H', ⟨by have := HK1.out; have := HK2.out; omega⟩, ⟨by (with_reducible repeat (first | apply Kd.R_alloc | apply Kd.R_drewN | apply Kd.R_drew)); exact HO_4.out⟩, ⟨by (with_reducible repeat (first | refine blk_drewN ?_ _ | refine blk_drew ?_ | refine blk_alloc ?_ _)); exact BK117.out⟩, ⟨by repeat (first | (with_reducible first | exact HB.out | apply below_alloc | apply pw_below_drewN | apply below_drew1 | refine below_set ?_ GE117.out) | exact HB.out)⟩⟩
           ·rw [if_neg c12] at H
            have c12b0 : decide (t126 ≤ 3) = false := decide_eq_false c12
            clear c12
            by_cases c13 : 0 ≤ x7_1
            ·rw [if_pos c13] at H
             have c13b0 := eq_true c13
             have c13b1 : decide (0 ≤ x7_1) = true := decide_eq_true c13
             clear c13
             by_cases c14 : x7_1 ≤ x10_2
             ·rw [if_pos c14] at H
              have c14b0 := eq_true c14
              have c14b1 : decide (x7_1 ≤ x10_2) = true := decide_eq_true c14
              clear c14
              by_cases c15 : x10_2 ≤ (l0.length : Int)
              ·rw [if_pos c15] at H
               have c15b0 := eq_true c15
               have c15b1 : decide (x10_2 ≤ (l0.length : Int)) = true := decide_eq_true c15
               clear c15
               by_cases c16 : x4_1.length < 2932031007402
               ·rw [if_pos c16] at H
                have LMc16 := Aside0.mk c16
                clear c16
                obtain ⟨y128, hy128⟩ : ∃ y_ : List (S46), y_ = (x4_1 ++ [(⟨1, strOfNums ((l0.take (x10_2 : Int).toNat).drop (x7_1 : Int).toNat), 0, x5_1, (wrap64 ((wrap64 (x7_1 - x6_1)) + 1))⟩ : S46)]) := ⟨_, rfl⟩
                replace H : (pendulumref04_Tokens.l0 k2 l0 y128 x5_1 x6_1 x10_2) = some (r1, r2, r3, r4) := by first | (rw [hy128]; with_reducible exact H) | (have H2_ := (Option.bind_some _ _).symm.trans H; rw [hy128]; with_reducible exact H2_) | (have H2_ := (Option.bind_some _ _).symm.trans H; with_reducible exact H2_) | with_reducible exact H | (rw [hy128]; exact H) | exact H
                have Ny128 := Aside0.mk hy128
                clear hy128
                have H' := Aside0.mk H
                clear H
                have p123 : 0 ≤ (x10_2 : Int) := of_decide_eq_true (by first | (with_reducible assumption) | assumption)
                have q123 : x10_2 < (l0.length : Int) := of_decide_eq_true (by first | (with_reducible assumption) | assumption)
                obtain ⟨ad123, e123, hx123_0⟩ := Kd.at_int HR0.out x10_2 p123 q123
                obtain rfl : ad121 = ad123 := (by injection e123)
                replace hx123_0 := (HB.out.cell (World.block_lt_of_cell? w _ hx123_0)).trans hx123_0
                replace p123 := eq_true p123
                replace q123 := eq_true q123
                go_wp2_with (first | (go_at_call 35; (with_reducible refine (pendulumref04_kind.calls k2 (rd l0 x10_2) t124 _ A9.out).mono ?_); rintro e w' ⟨rfl, ⟨nd, rfl⟩⟩; have p125 : 0 ≤ (x10_2 : Int) := of_decide_eq_true (by first | (with_reducible assumption) | assumption); have q125 : x10_2 < (l0.length : Int) := of_decide_eq_true (by first | (with_reducible assumption) | assumption); obtain ⟨ad125, e125, hx125_0⟩ := Kd.at_int HR0.out x10_2 p125 q125; obtain rfl : ad121 = ad125 := (by injection e125); replace hx125_0 := (HB.out.cell (World.block_lt_of_cell? w _ hx125_0)).trans hx125_0; replace p125 := eq_true p125; replace q125 := eq_true q125; (try clear A9)) | (go_at_call 35; (with_reducible refine (pendulumref04_kind.calls k2 (rd l0 x10_2) t126 _ A11.out).mono ?_); rintro e w' ⟨rfl, ⟨nd, rfl⟩⟩; obtain ⟨i017, hi017, _, hsz17, _⟩ := info_parts info5; obtain ⟨A17, hcut17, hA17, hC17⟩ := print_mid_of (P := Tryd.prog) (Value.int .u8) 0 22 5 .i64 .i64 Tryd.underlying22 hi017 hsz17 (some ad121) c0 l0 x7_1 x10_2 (of_decide_eq_true (by first | (with_reducible assumption) | assumption)) (by first | omega | exact of_decide_eq_true (by first | (with_reducible assumption) | assumption)) (of_decide_eq_true (by first | (with_reducible assumption) | assumption)) HC0.out; have HR127 := Aside0.mk (Kd.C_of_reads (h1 := fun _ => rfl) (hA17 _ (Kd.reads_of_C HR0.out))); have HC127 := Aside0.mk hC17; clear hA17 hC17 hi017 hsz17; have hcv18 := fun m_ => Kd.C_string (P := Tryd.prog) (A := A17) (c := (c0 - x7_1.toNat)) Tryd.underlying22 Tryd.underlying5 Tryd.underlying9 (Kd.C_drewN (Kd.C_below HR127.out HB.out) m_); have hcv18' := Kd.C_string (P := Tryd.prog) (A := A17) (c := (c0 - x7_1.toNat)) Tryd.underlying22 Tryd.underlying5 Tryd.underlying9 (Kd.C_below HR127.out HB.out); (try simp only [List.length_drop, List.length_take] at hcv18 hcv18'); (try rw [Nat.min_eq_left (Int.toNat_le.mpr (of_decide_eq_true (by first | (with_reducible assumption) | assumption)))] at hcv18'); (try simp only [Nat.min_eq_left (Int.toNat_le.mpr (of_decide_eq_true (by first | (with_reducible assumption) | assumption)))] at hcv18)) | ((with_reducible refine gate_builtin (b := .append) (xs := #[.tmp 52, .tmp 61]) rfl ?_); at_builtin; refine Kd.R_append k46 (w0 := w) w.heap.size rfl (.tmp 52) (.tmp 61) 41 46 (.agg #[(.int .i64 0), (.string ⟨#[]⟩), (.int .i64 0), (.int .i64 0), (.int .i64 0)]) 48 rfl Tryd.underlying41 info46 rfl (by decide) (by omega) u4 x4_1 (⟨1, strOfNums ((l0.take (x10_2 : Int).toNat).drop (x7_1 : Int).toNat), 0, x5_1, (wrap64 ((wrap64 (x7_1 - x6_1)) + 1))⟩ : S46) [.int .i64 1, .string (strOfNums ((l0.take (x10_2 : Int).toNat).drop (x7_1 : Int).toNat)), .int .i64 0, .int .i64 x5_1, .int .i64 (wrap64 ((wrap64 (x7_1 - x6_1)) + 1))] (fun _ => True) (fun _ => False) rfl rfl ?aP (fun _ hk => hk.elim) ?aF ?aO ?aB ?aS ?aL ?_; (case aP => exact k46_mkM _ _ _ (⟨1, strOfNums ((l0.take (x10_2 : Int).toNat).drop (x7_1 : Int).toNat), 0, x5_1, (wrap64 ((wrap64 (x7_1 - x6_1)) + 1))⟩ : S46)); (case aB => exact (by repeat (first | (with_reducible first | exact HB.out | apply below_alloc | apply pw_below_drewN | apply below_drew1 | refine below_set ?_ GE117.out) | exact HB.out))); (case aF => exact (fun _ _ => trivial)); (case aO => exact (by (with_reducible repeat (first | apply Kd.R_alloc | apply Kd.R_drewN | apply Kd.R_drew)); exact HO_4.out)); (case aS => exact (below_size (by repeat (first | (with_reducible first | exact HB.out | apply below_alloc | apply pw_below_drewN | apply below_drew1 | refine below_set ?_ GE117.out) | exact HB.out)))); (case aL => have := LMc16.out; omega); intro v129 w19 ho hb hg hat; rw [← Ny128.out] at ho; have n0_ := Aside0.mk (blk_grown (g := gb117) (o := .cells #[.int .i64 x118000_1, .int .i64 x118001_1, .int .i64 x118002_1] 29 (0, 0)) (by (with_reducible repeat (first | refine blk_drewN ?_ _ | refine blk_drew ?_ | refine blk_alloc ?_ _)); exact BK117.out) hg (Kd.R_ne HO_4.out BK117.out (by decide))); have n1_ := Aside0.mk (hb); have n2_ := Aside0.mk (ho); clear BK117; clear HB; clear HO_4; have BK117 := n0_; have HB := n1_; have HO130 := n2_; clear n0_ n1_ n2_; clear ho hb hg hat))
                go_roundg k2
                case measure => have := HK1.out; have := HK2.out; omega
                case rel => exact ⟨(y128), (x5_1), (x6_1), (x10_2), (x118000_1), (x118001_1), (x118002_1), (by first | rfl | (simp; done) | (simp [*]; done)), (by first | rfl | (simp; done) | (simp [*]; done)), (by first | rfl | (simp; done) | (simp [*]; done)), H', ⟨by have := HK1.out; have := HK2.out; omega⟩, ⟨by (with_reducible repeat (first | apply Kd.R_alloc | apply Kd.R_drewN | apply Kd.R_drew)); exact HO130.out⟩, ⟨by (with_reducible repeat (first | refine blk_drewN ?_ _ | refine blk_drew ?_ | refine blk_alloc ?_ _)); exact BK117.out⟩, ⟨by repeat (first | (with_reducible first | exact HB.out | apply below_alloc | apply pw_below_drewN | apply below_drew1 | refine below_set ?_ GE117.out) | exact HB.out)⟩⟩
               ·rw [if_neg c16] at H
                exact absurd H (by simp)
              ·rw [if_neg c15] at H
               exact absurd H (by simp)
             ·rw [if_neg c14] at H
              exact absurd H (by simp)
            ·rw [if_neg c13] at H
             exact absurd H (by simp)
          ·rw [if_neg c10] at H
           have c10b0 : decide (1 ≤ t124) = false := decide_eq_false c10
           clear c10
           by_cases c20 : 0 ≤ x7_1
           ·rw [if_pos c20] at H
            have c20b0 := eq_true c20
            have c20b1 : decide (0 ≤ x7_1) = true := decide_eq_true c20
            clear c20
            by_cases c21 : x7_1 ≤ x10_2
            ·rw [if_pos c21] at H
             have c21b0 := eq_true c21
             have c21b1 : decide (x7_1 ≤ x10_2) = true := decide_eq_true c21
             clear c21
             by_cases c22 : x10_2 ≤ (l0.length : Int)
             ·rw [if_pos c22] at H
              have c22b0 := eq_true c22
              have c22b1 : decide (x10_2 ≤ (l0.length : Int)) = true := decide_eq_true c22
              clear c22
              by_cases c23 : x4_1.length < 2932031007402
              ·rw [if_pos c23] at H
               have LMc23 := Aside0.mk c23
               clear c23
               obtain ⟨y132, hy132⟩ : ∃ y_ : List (S46), y_ = (x4_1 ++ [(⟨1, strOfNums ((l0.take (x10_2 : Int).toNat).drop (x7_1 : Int).toNat), 0, x5_1, (wrap64 ((wrap64 (x7_1 - x6_1)) + 1))⟩ : S46)]) := ⟨_, rfl⟩
               replace H : (pendulumref04_Tokens.l0 k2 l0 y132 x5_1 x6_1 x10_2) = some (r1, r2, r3, r4) := by first | (rw [hy132]; with_reducible exact H) | (have H2_ := (Option.bind_some _ _).symm.trans H; rw [hy132]; with_reducible exact H2_) | (have H2_ := (Option.bind_some _ _).symm.trans H; with_reducible exact H2_) | with_reducible exact H | (rw [hy132]; exact H) | exact H
               have Ny132 := Aside0.mk hy132
               clear hy132
               have H' := Aside0.mk H
               clear H
               have p123 : 0 ≤ (x10_2 : Int) := of_decide_eq_true (by first | (with_reducible assumption) | assumption)
               have q123 : x10_2 < (l0.length : Int) := of_decide_eq_true (by first | (with_reducible assumption) | assumption)
               obtain ⟨ad123, e123, hx123_0⟩ := Kd.at_int HR0.out x10_2 p123 q123
               obtain rfl : ad121 = ad123 := (by injection e123)
               replace hx123_0 := (HB.out.cell (World.block_lt_of_cell? w _ hx123_0)).trans hx123_0
               replace p123 := eq_true p123
               replace q123 := eq_true q123
               go_wp2_with (first | (go_at_call 35; (with_reducible refine (pendulumref04_kind.calls k2 (rd l0 x10_2) t124 _ A9.out).mono ?_); rintro e w' ⟨rfl, ⟨nd, rfl⟩⟩; obtain ⟨i024, hi024, _, hsz24, _⟩ := info_parts info5; obtain ⟨A24, hcut24, hA24, hC24⟩ := print_mid_of (P := Tryd.prog) (Value.int .u8) 0 22 5 .i64 .i64 Tryd.underlying22 hi024 hsz24 (some ad121) c0 l0 x7_1 x10_2 (of_decide_eq_true (by first | (with_reducible assumption) | assumption)) (by first | omega | exact of_decide_eq_true (by first | (with_reducible assumption) | assumption)) (of_decide_eq_true (by first | (with_reducible assumption) | assumption)) HC0.out; have HR131 := Aside0.mk (Kd.C_of_reads (h1 := fun _ => rfl) (hA24 _ (Kd.reads_of_C HR0.out))); have HC131 := Aside0.mk hC24; clear hA24 hC24 hi024 hsz24; have hcv25 := fun m_ => Kd.C_string (P := Tryd.prog) (A := A24) (c := (c0 - x7_1.toNat)) Tryd.underlying22 Tryd.underlying5 Tryd.underlying9 (Kd.C_drewN (Kd.C_below HR131.out HB.out) m_); have hcv25' := Kd.C_string (P := Tryd.prog) (A := A24) (c := (c0 - x7_1.toNat)) Tryd.underlying22 Tryd.underlying5 Tryd.underlying9 (Kd.C_below HR131.out HB.out); (try simp only [List.length_drop, List.length_take] at hcv25 hcv25'); (try rw [Nat.min_eq_left (Int.toNat_le.mpr (of_decide_eq_true (by first | (with_reducible assumption) | assumption)))] at hcv25'); (try simp only [Nat.min_eq_left (Int.toNat_le.mpr (of_decide_eq_true (by first | (with_reducible assumption) | assumption)))] at hcv25)) | ((with_reducible refine gate_builtin (b := .append) (xs := #[.tmp 52, .tmp 61]) rfl ?_); at_builtin; refine Kd.R_append k46 (w0 := w) w.heap.size rfl (.tmp 52) (.tmp 61) 41 46 (.agg #[(.int .i64 0), (.string ⟨#[]⟩), (.int .i64 0), (.int .i64 0), (.int .i64 0)]) 48 rfl Tryd.underlying41 info46 rfl (by decide) (by omega) u4 x4_1 (⟨1, strOfNums ((l0.take (x10_2 : Int).toNat).drop (x7_1 : Int).toNat), 0, x5_1, (wrap64 ((wrap64 (x7_1 - x6_1)) + 1))⟩ : S46) [.int .i64 1, .string (strOfNums ((l0.take (x10_2 : Int).toNat).drop (x7_1 : Int).toNat)), .int .i64 0, .int .i64 x5_1, .int .i64 (wrap64 ((wrap64 (x7_1 - x6_1)) + 1))] (fun _ => True) (fun _ => False) rfl rfl ?aP (fun _ hk => hk.elim) ?aF ?aO ?aB ?aS ?aL ?_; (case aP => exact k46_mkM _ _ _ (⟨1, strOfNums ((l0.take (x10_2 : Int).toNat).drop (x7_1 : Int).toNat), 0, x5_1, (wrap64 ((wrap64 (x7_1 - x6_1)) + 1))⟩ : S46)); (case aB => exact (by repeat (first | (with_reducible first | exact HB.out | apply below_alloc | apply pw_below_drewN | apply below_drew1 | refine below_set ?_ GE117.out) | exact HB.out))); (case aF => exact (fun _ _ => trivial)); (case aO => exact (by (with_reducible repeat (first | apply Kd.R_alloc | apply Kd.R_drewN | apply Kd.R_drew)); exact HO_4.out)); (case aS => exact (below_size (by repeat (first | (with_reducible first | exact HB.out | apply below_alloc | apply pw_below_drewN | apply below_drew1 | refine below_set ?_ GE117.out) | exact HB.out)))); (case aL => have := LMc23.out; omega); intro v133 w26 ho hb hg hat; rw [← Ny132.out] at ho; have n0_ := Aside0.mk (blk_grown (g := gb117) (o := .cells #[.int .i64 x118000_1, .int .i64 x118001_1, .int .i64 x118002_1] 29 (0, 0)) (by (with_reducible repeat (first | refine blk_drewN ?_ _ | refine blk_drew ?_ | refine blk_alloc ?_ _)); exact BK117.out) hg (Kd.R_ne HO_4.out BK117.out (by decide))); have n1_ := Aside0.mk (hb); have n2_ := Aside0.mk (ho); clear BK117; clear HB; clear HO_4; have BK117 := n0_; have HB := n1_; have HO134 := n2_; clear n0_ n1_ n2_; clear ho hb hg hat))
               go_roundg k2
               case measure => have := HK1.out; have := HK2.out; omega
               case rel => exact ⟨(y132), (x5_1), (x6_1), (x10_2), (x118000_1), (x118001_1), (x118002_1), (by first | rfl | (simp; done) | (simp [*]; done)), (by first | rfl | (simp; done) | (simp [*]; done)), (by first | rfl | (simp; done) | (simp [*]; done)), H', ⟨by have := HK1.out; have := HK2.out; omega⟩, ⟨by (with_reducible repeat (first | apply Kd.R_alloc | apply Kd.R_drewN | apply Kd.R_drew)); exact HO134.out⟩, ⟨by (with_reducible repeat (first | refine blk_drewN ?_ _ | refine blk_drew ?_ | refine blk_alloc ?_ _)); exact BK117.out⟩, ⟨by repeat (first | (with_reducible first | exact HB.out | apply below_alloc | apply pw_below_drewN | apply below_drew1 | refine below_set ?_ GE117.out) | exact HB.out)⟩⟩
              ·rw [if_neg c23] at H
               exact absurd H (by simp)
             ·rw [if_neg c22] at H
              exact absurd H (by simp)
            ·rw [if_neg c21] at H
             exact absurd H (by simp)
           ·rw [if_neg c20] at H
            exact absurd H (by simp)
         ·rw [if_neg c8] at H
          exact absurd H (by simp)
        ·rw [if_neg c7] at H
         have c7b0 : decide (x10_2 < (l0.length : Int)) = false := decide_eq_false c7
         clear c7
         by_cases c27 : 0 ≤ x7_1
         ·rw [if_pos c27] at H
          have c27b0 := eq_true c27
          have c27b1 : decide (0 ≤ x7_1) = true := decide_eq_true c27
          clear c27
          by_cases c28 : x7_1 ≤ x10_2
          ·rw [if_pos c28] at H
           have c28b0 := eq_true c28
           have c28b1 : decide (x7_1 ≤ x10_2) = true := decide_eq_true c28
           clear c28
           by_cases c29 : x10_2 ≤ (l0.length : Int)
           ·rw [if_pos c29] at H
            have c29b0 := eq_true c29
            have c29b1 : decide (x10_2 ≤ (l0.length : Int)) = true := decide_eq_true c29
            clear c29
            by_cases c30 : x4_1.length < 2932031007402
            ·rw [if_pos c30] at H
             have LMc30 := Aside0.mk c30
             clear c30
             obtain ⟨y136, hy136⟩ : ∃ y_ : List (S46), y_ = (x4_1 ++ [(⟨1, strOfNums ((l0.take (x10_2 : Int).toNat).drop (x7_1 : Int).toNat), 0, x5_1, (wrap64 ((wrap64 (x7_1 - x6_1)) + 1))⟩ : S46)]) := ⟨_, rfl⟩
             replace H : (pendulumref04_Tokens.l0 k2 l0 y136 x5_1 x6_1 x10_2) = some (r1, r2, r3, r4) := by first | (rw [hy136]; with_reducible exact H) | (have H2_ := (Option.bind_some _ _).symm.trans H; rw [hy136]; with_reducible exact H2_) | (have H2_ := (Option.bind_some _ _).symm.trans H; with_reducible exact H2_) | with_reducible exact H | (rw [hy136]; exact H) | exact H
             have Ny136 := Aside0.mk hy136
             clear hy136
             have H' := Aside0.mk H
             clear H
             obtain ⟨i031, hi031, _, hsz31, _⟩ := info_parts info5
             obtain ⟨A31, hcut31, hA31, hC31⟩ := print_mid_of (P := Tryd.prog) (Value.int .u8) 0 22 5 .i64 .i64 Tryd.underlying22 hi031 hsz31 (some ad121) c0 l0 x7_1 x10_2 (of_decide_eq_true (by first | (with_reducible assumption) | assumption)) (by first | omega | exact of_decide_eq_true (by first | (with_reducible assumption) | assumption)) (of_decide_eq_true (by first | (with_reducible assumption) | assumption)) HC0.out
             have HR135 := Aside0.mk (Kd.C_of_reads (h1 := fun _ => rfl) (hA31 _ (Kd.reads_of_C HR0.out)))
             have HC135 := Aside0.mk hC31
             clear hA31 hC31 hi031 hsz31
             have hcv32 := fun m_ => Kd.C_string (P := Tryd.prog) (A := A31) (c := (c0 - x7_1.toNat)) Tryd.underlying22 Tryd.underlying5 Tryd.underlying9 (Kd.C_drewN (Kd.C_below HR135.out HB.out) m_); have hcv32' := Kd.C_string (P := Tryd.prog) (A := A31) (c := (c0 - x7_1.toNat)) Tryd.underlying22 Tryd.underlying5 Tryd.underlying9 (Kd.C_below HR135.out HB.out); (try simp only [List.length_drop, List.length_take] at hcv32 hcv32'); (try rw [Nat.min_eq_left (Int.toNat_le.mpr (of_decide_eq_true (by first | (with_reducible assumption) | assumption)))] at hcv32'); (try simp only [Nat.min_eq_left (Int.toNat_le.mpr (of_decide_eq_true (by first | (with_reducible assumption) | assumption)))] at hcv32)
             go_wp2_with (first | ((with_reducible refine gate_builtin (b := .append) (xs := #[.tmp 52, .tmp 61]) rfl ?_); at_builtin; refine Kd.R_append k46 (w0 := w) w.heap.size rfl (.tmp 52) (.tmp 61) 41 46 (.agg #[(.int .i64 0), (.string ⟨#[]⟩), (.int .i64 0), (.int .i64 0), (.int .i64 0)]) 48 rfl Tryd.underlying41 info46 rfl (by decide) (by omega) u4 x4_1 (⟨1, strOfNums ((l0.take (x10_2 : Int).toNat).drop (x7_1 : Int).toNat), 0, x5_1, (wrap64 ((wrap64 (x7_1 - x6_1)) + 1))⟩ : S46) [.int .i64 1, .string (strOfNums ((l0.take (x10_2 : Int).toNat).drop (x7_1 : Int).toNat)), .int .i64 0, .int .i64 x5_1, .int .i64 (wrap64 ((wrap64 (x7_1 - x6_1)) + 1))] (fun _ => True) (fun _ => False) rfl rfl ?aP (fun _ hk => hk.elim) ?aF ?aO ?aB ?aS ?aL ?_; (case aP => exact k46_mkM _ _ _ (⟨1, strOfNums ((l0.take (x10_2 : Int).toNat).drop (x7_1 : Int).toNat), 0, x5_1, (wrap64 ((wrap64 (x7_1 - x6_1)) + 1))⟩ : S46)); (case aB => exact (by repeat (first | (with_reducible first | exact HB.out | apply below_alloc | apply pw_below_drewN | apply below_drew1 | refine below_set ?_ GE117.out) | exact HB.out))); (case aF => exact (fun _ _ => trivial)); (case aO => exact (by (with_reducible repeat (first | apply Kd.R_alloc | apply Kd.R_drewN | apply Kd.R_drew)); exact HO_4.out)); (case aS => exact (below_size (by repeat (first | (with_reducible first | exact HB.out | apply below_alloc | apply pw_below_drewN | apply below_drew1 | refine below_set ?_ GE117.out) | exact HB.out)))); (case aL => have := LMc30.out; omega); intro v137 w33 ho hb hg hat; rw [← Ny136.out] at ho; have n0_ := Aside0.mk (blk_grown (g := gb117) (o := .cells #[.int .i64 x118000_1, .int .i64 x118001_1, .int .i64 x118002_1] 29 (0, 0)) (by (with_reducible repeat (first | refine blk_drewN ?_ _ | refine blk_drew ?_ | refine blk_alloc ?_ _)); exact BK117.out) hg (Kd.R_ne HO_4.out BK117.out (by decide))); have n1_ := Aside0.mk (hb); have n2_ := Aside0.mk (ho); clear BK117; clear HB; clear HO_4; have BK117 := n0_; have HB := n1_; have HO138 := n2_; clear n0_ n1_ n2_; clear ho hb hg hat))
             go_roundg k2
             case measure => have := HK1.out; have := HK2.out; omega
             case rel => exact ⟨(y136), (x5_1), (x6_1), (x10_2), (x118000_1), (x118001_1), (x118002_1), (by first | rfl | (simp; done) | (simp [*]; done)), (by first | rfl | (simp; done) | (simp [*]; done)), (by first | rfl | (simp; done) | (simp [*]; done)), H', ⟨by have := HK1.out; have := HK2.out; omega⟩, ⟨by (with_reducible repeat (first | apply Kd.R_alloc | apply Kd.R_drewN | apply Kd.R_drew)); exact HO138.out⟩, ⟨by (with_reducible repeat (first | refine blk_drewN ?_ _ | refine blk_drew ?_ | refine blk_alloc ?_ _)); exact BK117.out⟩, ⟨by repeat (first | (with_reducible first | exact HB.out | apply below_alloc | apply pw_below_drewN | apply below_drew1 | refine below_set ?_ GE117.out) | exact HB.out)⟩⟩
            ·rw [if_neg c30] at H
             exact absurd H (by simp)
           ·rw [if_neg c29] at H
            exact absurd H (by simp)
          ·rw [if_neg c28] at H
           exact absurd H (by simp)
         ·rw [if_neg c27] at H
          exact absurd H (by simp)
     ·rw [if_neg c6] at H
      have c6b0 : (t122 == 1) = false := beq_eq_false_iff_ne.mpr c6
      have c6b1 : (t122 != 1) = true := bne_iff_ne.mpr c6
      by_cases c34 : t122 = 2
      ·rw [if_pos c34] at H
       have c34b0 : (t122 == 2) = true := beq_iff_eq.mpr c34
       have c34b1 : (t122 != 2) = false := bne_eq_false_iff_eq.mpr c34
       clear c34
       have H' := Aside0.mk H
       clear H
       have p121 : 0 ≤ (x7_1 : Int) := of_decide_eq_true (by first | (with_reducible assumption) | assumption)
       have q121 : x7_1 < (l0.length : Int) := of_decide_eq_true (by first | (with_reducible assumption) | assumption)
       obtain ⟨ad121, e121, hx121_0⟩ := Kd.at_int HR0.out x7_1 p121 q121
       cases e121
       replace hx121_0 := (HB.out.cell (World.block_lt_of_cell? w _ hx121_0)).trans hx121_0
       replace p121 := eq_true p121
       replace q121 := eq_true q121
       go_wp2_with (first | ((with_reducible refine gate_callee (f := 35) rfl ?_); refine goesL_ (some 25) rfl rfl Tryd.func35 (by kernel_rfl) rfl #[.int .u8 (rd l0 x7_1)] rfl (by (try simp only [List.map_toArray, List.map_cons, List.map_nil]); first | done | rfl | (simp only [List.length_drop, List.length_take]; rfl)) ?_; (with_reducible refine (pendulumref04_kind.calls k1 (rd l0 x7_1) t122 _ A5.out).mono ?_); rintro e w' ⟨rfl, ⟨nd, rfl⟩⟩; refine ⟨_, rfl, ?_⟩))
       go_loopg [10] k1 (fun kq v10 w' => ∃ (x10_2 : Int), v10 = .int .i64 x10_2 ∧ Aside0 (pendulumref04_Tokens.l2 kq l0 x4_1 x5_1 x6_1 x7_1 (wrap64 ((wrap64 (x7_1 - x6_1)) + 1)) x10_2 = some (r1, r2, r3, r4)) ∧ Aside0 (kq ≤ k1) ∧ Aside0 (Kd.R k46 46 w' w.heap.size (fun _ => True) u4 x4_1) ∧ Aside0 (w'.heap[gb117]? = some (.cells #[.int .i64 x118000_1, .int .i64 x118001_1, .int .i64 x118002_1] 29 (0, 0))) ∧ Aside0 (Below w.heap.size w w'))
       case atStart => exact ⟨(wrap64 (x7_1 + 1)), (by first | rfl | (simp; done) | (simp [*]; done)), H', ⟨Nat.le_refl _⟩, ⟨by (with_reducible repeat (first | apply Kd.R_alloc | apply Kd.R_drewN | apply Kd.R_drew)); exact HO_4.out⟩, ⟨by (with_reducible repeat (first | refine blk_drewN ?_ _ | refine blk_drew ?_ | refine blk_alloc ?_ _)); exact BK117.out⟩, ⟨by repeat (first | (with_reducible first | exact HB.out | apply below_alloc | apply pw_below_drewN | apply below_drew1 | refine below_set ?_ GE117.out) | exact HB.out)⟩⟩
       case round =>
        clear H'
        try clear c1
        try clear p1
        try clear q1
        try clear hx1
        try clear hcv1
        try clear c2
        try clear p2
        try clear hcv2
        try clear c3
        try clear c3b0
        try clear hcv3
        try clear c4
        try clear c4b0
        try clear c6
        try clear c6b0
        try clear c6b1
        try clear p6
        try clear c7
        try clear c7b0
        try clear c8
        try clear c8b0
        try clear c10
        try clear c10b0
        try clear c12
        try clear c12b0
        try clear p12
        try clear q12
        try clear hx12
        try clear c13
        try clear c13b0
        try clear c13b1
        try clear c14
        try clear c14b0
        try clear c14b1
        try clear c15
        try clear c15b0
        try clear c15b1
        try clear c16
        try clear hcv18
        try clear c20
        try clear c20b0
        try clear c20b1
        try clear c21
        try clear c21b0
        try clear c21b1
        try clear c22
        try clear c22b0
        try clear c22b1
        try clear c23
        try clear hcv25
        try clear c27
        try clear c27b0
        try clear c27b1
        try clear c28
        try clear c28b0
        try clear c28b1
        try clear c29
        try clear c29b0
        try clear c29b1
        try clear c30
        try clear hcv32
        try clear c34
        try clear c34b0
        try clear c34b1
        try clear hx121_0
        try clear hx123_0
        try clear hx125_0
        try clear p1
        try clear p121
        try clear p123
        try clear p125
        try clear p2
        try clear p6
        try clear q1
        try clear q121
        try clear q123
        try clear q125
        obtain ⟨x10_2, rfl, HA, HK2, HO_4, BK117, HB⟩ := hrel
        cases gk with
        | zero => exact absurd HA.out (by simp [pendulumref04_Tokens.l2])
        | succ k2 =>
         have H := HA.out
         clear HA
         simp only [pendulumref04_Tokens.l2] at H
         by_cases c35 : x10_2 < (l0.length : Int)
         ·rw [if_pos c35] at H
          have c35b0 : decide (x10_2 < (l0.length : Int)) = true := decide_eq_true c35
          clear c35
          by_cases c36 : 0 ≤ x10_2
          ·rw [if_pos c36] at H
           have c36b0 : decide (0 ≤ x10_2) = true := decide_eq_true c36
           clear c36
           replace H := Option.bind_eq_some_iff.mp H
           obtain ⟨t140, A370, H⟩ := H
           replace H : (if t140 = 2 then (pendulumref04_Tokens.l2 k2 l0 x4_1 x5_1 x6_1 x7_1 (wrap64 ((wrap64 (x7_1 - x6_1)) + 1)) (wrap64 (x10_2 + 1))) else (if 0 ≤ x7_1 then (if x7_1 ≤ x10_2 then (if x10_2 ≤ (l0.length : Int) then ((pendulumref04_Value.f k2 (strOfNums ((l0.take (x10_2 : Int).toNat).drop (x7_1 : Int).toNat))).bind fun bt142 => (if bt142.2 = true then (if x4_1.length < 2932031007402 then (pendulumref04_Tokens.l0 k2 l0 (x4_1 ++ [(⟨2, strOfNums ((l0.take (x10_2 : Int).toNat).drop (x7_1 : Int).toNat), bt142.1, x5_1, (wrap64 ((wrap64 (x7_1 - x6_1)) + 1))⟩ : S46)]) x5_1 x6_1 x10_2) else (none)) else (some (([] : List (S46)), 2, x5_1, (wrap64 ((wrap64 (x7_1 - x6_1)) + 1)))))) else (none)) else (none)) else (none))) = some (r1, r2, r3, r4) := H
           have A37 := Aside0.mk A370
           clear A370
           by_cases c38 : t140 = 2
           ·rw [if_pos c38] at H
            have c38b0 : (t140 == 2) = true := beq_iff_eq.mpr c38
            have c38b1 : (t140 != 2) = false := bne_eq_false_iff_eq.mpr c38
            clear c38
            have H' := Aside0.mk H
            clear H
            have p139 : 0 ≤ (x10_2 : Int) := of_decide_eq_true (by first | (with_reducible assumption) | assumption)
            have q139 : x10_2 < (l0.length : Int) := of_decide_eq_true (by first | (with_reducible assumption) | assumption)
            obtain ⟨ad139, e139, hx139_0⟩ := Kd.at_int HR0.out x10_2 p139 q139
            obtain rfl : ad121 = ad139 := (by injection e139)
            replace hx139_0 := (HB.out.cell (World.block_lt_of_cell? w _ hx139_0)).trans hx139_0
            replace p139 := eq_true p139
            replace q139 := eq_true q139
            go_wp2_with (first | (go_at_call 35; (with_reducible refine (pendulumref04_kind.calls k2 (rd l0 x10_2) t140 _ A37.out).mono ?_); rintro e w' ⟨rfl, ⟨nd, rfl⟩⟩))
            go_roundg k2
            case measure => have := HK1.out; have := HK2.out; omega
            case rel => exact ⟨(wrap64 (x10_2 + 1)), (by first | rfl | (simp; done) | (simp [*]; done)), H', ⟨by have := HK1.out; have := HK2.out; omega⟩, ⟨by (with_reducible repeat (first | apply Kd.R_alloc | apply Kd.R_drewN | apply Kd.R_drew)); exact HO_4.out⟩, ⟨by (with_reducible repeat (first | refine blk_drewN ?_ _ | refine blk_drew ?_ | refine blk_alloc ?_ _)); exact BK117.out⟩, ⟨by repeat (first | (with_reducible first | exact HB.out | apply below_alloc | apply pw_below_drewN | apply below_drew1 | refine below_set ?_ GE117.out) | exact HB.out)⟩⟩
           ·rw [if_neg c38] at H
            have c38b0 : (t140 == 2) = false := beq_eq_false_iff_ne.mpr c38
            have c38b1 : (t140 != 2) = true := bne_iff_ne.mpr c38
            by_cases c39 : 0 ≤ x7_1
            ·rw [if_pos c39] at H
             have c39b0 := eq_true c39
             have c39b1 : decide (0 ≤ x7_1) = true := decide_eq_true c39
             clear c39
             by_cases c40 : x7_1 ≤ x10_2
             ·rw [if_pos c40] at H
              have c40b0 := eq_true c40
              have c40b1 : decide (x7_1 ≤ x10_2) = true := decide_eq_true c40
              clear c40
              by_cases c41 : x10_2 ≤ (l0.length : Int)
              ·rw [if_pos c41] at H
               have c41b0 := eq_true c41
               have c41b1 : decide (x10_2 ≤ (l0.length : Int)) = true := decide_eq_true c41
               clear c41
               replace H := Option.bind_eq_some_iff.mp H
               obtain ⟨⟨t142, t143⟩, A420, H⟩ := H
               replace H : (if t143 = true then (if x4_1.length < 2932031007402 then (pendulumref04_Tokens.l0 k2 l0 (x4_1 ++ [(⟨2, strOfNums ((l0.take (x10_2 : Int).toNat).drop (x7_1 : Int).toNat), t142, x5_1, (wrap64 ((wrap64 (x7_1 - x6_1)) + 1))⟩ : S46)]) x5_1 x6_1 x10_2) else (none)) else (some (([] : List (S46)), 2, x5_1, (wrap64 ((wrap64 (x7_1 - x6_1)) + 1))))) = some (r1, r2, r3, r4) := H
               have A42 := Aside0.mk A420
               clear A420
               by_cases c43 : t143 = true
               ·subst c43
                have H1 : (if x4_1.length < 2932031007402 then (pendulumref04_Tokens.l0 k2 l0 (x4_1 ++ [(⟨2, strOfNums ((l0.take (x10_2 : Int).toNat).drop (x7_1 : Int).toNat), t142, x5_1, (wrap64 ((wrap64 (x7_1 - x6_1)) + 1))⟩ : S46)]) x5_1 x6_1 x10_2) else (none)) = some (r1, r2, r3, r4) := by rw [if_pos rfl] at H; exact H
                clear H
                have H := H1
                clear H1
                have c44b0 := eq_true (of_decide_eq_true (by first | (with_reducible assumption) | assumption) : 0 ≤ x7_1)
                have c45b0 := eq_true (of_decide_eq_true (by first | (with_reducible assumption) | assumption) : x7_1 ≤ x10_2)
                have c46b0 := eq_true (of_decide_eq_true (by first | (with_reducible assumption) | assumption) : x10_2 ≤ (l0.length : Int))
                by_cases c47 : x4_1.length < 2932031007402
                ·rw [if_pos c47] at H
                 have LMc47 := Aside0.mk c47
                 clear c47
                 obtain ⟨y145, hy145⟩ : ∃ y_ : List (S46), y_ = (x4_1 ++ [(⟨2, strOfNums ((l0.take (x10_2 : Int).toNat).drop (x7_1 : Int).toNat), t142, x5_1, (wrap64 ((wrap64 (x7_1 - x6_1)) + 1))⟩ : S46)]) := ⟨_, rfl⟩
                 replace H : (pendulumref04_Tokens.l0 k2 l0 y145 x5_1 x6_1 x10_2) = some (r1, r2, r3, r4) := by first | (rw [hy145]; with_reducible exact H) | (have H2_ := (Option.bind_some _ _).symm.trans H; rw [hy145]; with_reducible exact H2_) | (have H2_ := (Option.bind_some _ _).symm.trans H; with_reducible exact H2_) | with_reducible exact H | (rw [hy145]; exact H) | exact H
                 have Ny145 := Aside0.mk hy145
                 clear hy145
                 have H' := Aside0.mk H
                 clear H
                 have p139 : 0 ≤ (x10_2 : Int) := of_decide_eq_true (by first | (with_reducible assumption) | assumption)
                 have q139 : x10_2 < (l0.length : Int) := of_decide_eq_true (by first | (with_reducible assumption) | assumption)
                 obtain ⟨ad139, e139, hx139_0⟩ := Kd.at_int HR0.out x10_2 p139 q139
                 obtain rfl : ad121 = ad139 := (by injection e139)
                 replace hx139_0 := (HB.out.cell (World.block_lt_of_cell? w _ hx139_0)).trans hx139_0
                 replace p139 := eq_true p139
                 replace q139 := eq_true q139
                 go_wp2_with (first | (go_at_call 35; (with_reducible refine (pendulumref04_kind.calls k2 (rd l0 x10_2) t140 _ A37.out).mono ?_); rintro e w' ⟨rfl, ⟨nd, rfl⟩⟩; obtain ⟨i048, hi048, _, hsz48, _⟩ := info_parts info5; obtain ⟨A48, hcut48, hA48, hC48⟩ := print_mid_of (P := Tryd.prog) (Value.int .u8) 0 22 5 .i64 .i64 Tryd.underlying22 hi048 hsz48 (some ad121) c0 l0 x7_1 x10_2 (of_decide_eq_true (by first | (with_reducible assumption) | assumption)) (by first | omega | exact of_decide_eq_true (by first | (with_reducible assumption) | assumption)) (of_decide_eq_true (by first | (with_reducible assumption) | assumption)) HC0.out; have HR141 := Aside0.mk (Kd.C_of_reads (h1 := fun _ => rfl) (hA48 _ (Kd.reads_of_C HR0.out))); have HC141 := Aside0.mk hC48; clear hA48 hC48 hi048 hsz48; have hcv49 := fun m_ => Kd.C_string (P := Tryd.prog) (A := A48) (c := (c0 - x7_1.toNat)) Tryd.underlying22 Tryd.underlying5 Tryd.underlying9 (Kd.C_drewN (Kd.C_below HR141.out HB.out) m_); have hcv49' := Kd.C_string (P := Tryd.prog) (A := A48) (c := (c0 - x7_1.toNat)) Tryd.underlying22 Tryd.underlying5 Tryd.underlying9 (Kd.C_below HR141.out HB.out); (try simp only [List.length_drop, List.length_take] at hcv49 hcv49'); (try rw [Nat.min_eq_left (Int.toNat_le.mpr (of_decide_eq_true (by first | (with_reducible assumption) | assumption)))] at hcv49'); (try simp only [Nat.min_eq_left (Int.toNat_le.mpr (of_decide_eq_true (by first | (with_reducible assumption) | assumption)))] at hcv49)) | ((with_reducible refine gate_callee (f := 36) rfl ?_); refine goesL_ (some 85) rfl rfl Tryd.func36 (by kernel_rfl) rfl #[.string (strOfNums ((l0.take (x10_2 : Int).toNat).drop (x7_1 : Int).toNat))] rfl (by (try simp only [List.map_toArray, List.map_cons, List.map_nil]); first | done | rfl | (simp only [List.length_drop, List.length_take]; rfl)) ?_; (with_reducible refine (pendulumref04_Value.calls k2 (strOfNums ((l0.take (x10_2 : Int).toNat).drop (x7_1 : Int).toNat)) t142 true _ A42.out).mono ?_); rintro e w' ⟨rfl, ⟨nd, rfl⟩⟩; refine ⟨_, rfl, ?_⟩; obtain ⟨i050, hi050, _, hsz50, _⟩ := info_parts info5; obtain ⟨A50, hcut50, hA50, hC50⟩ := print_mid_of (P := Tryd.prog) (Value.int .u8) 0 22 5 .i64 .i64 Tryd.underlying22 hi050 hsz50 (some ad121) c0 l0 x7_1 x10_2 (of_decide_eq_true (by first | (with_reducible assumption) | assumption)) (by first | omega | exact of_decide_eq_true (by first | (with_reducible assumption) | assumption)) (of_decide_eq_true (by first | (with_reducible assumption) | assumption)) HC0.out; have HR144 := Aside0.mk (Kd.C_of_reads (h1 := fun _ => rfl) (hA50 _ (Kd.reads_of_C HR0.out))); have HC144 := Aside0.mk hC50; clear hA50 hC50 hi050 hsz50; have hcv51 := fun m_ => Kd.C_string (P := Tryd.prog) (A := A50) (c := (c0 - x7_1.toNat)) Tryd.underlying22 Tryd.underlying5 Tryd.underlying9 (Kd.C_drewN (Kd.C_below HR144.out HB.out) m_); have hcv51' := Kd.C_string (P := Tryd.prog) (A := A50) (c := (c0 - x7_1.toNat)) Tryd.underlying22 Tryd.underlying5 Tryd.underlying9 (Kd.C_below HR144.out HB.out); (try simp only [List.length_drop, List.length_take] at hcv51 hcv51'); (try rw [Nat.min_eq_left (Int.toNat_le.mpr (of_decide_eq_true (by first | (with_reducible assumption) | assumption)))] at hcv51'); (try simp only [Nat.min_eq_left (Int.toNat_le.mpr (of_decide_eq_true (by first | (with_reducible assumption) | assumption)))] at hcv51)) | ((with_reducible refine gate_builtin (b := .append) (xs := #[.tmp 93, .tmp 103]) rfl ?_); at_builtin; refine Kd.R_append k46 (w0 := w) w.heap.size rfl (.tmp 93) (.tmp 103) 41 46 (.agg #[(.int .i64 0), (.string ⟨#[]⟩), (.int .i64 0), (.int .i64 0), (.int .i64 0)]) 48 rfl Tryd.underlying41 info46 rfl (by decide) (by omega) u4 x4_1 (⟨2, strOfNums ((l0.take (x10_2 : Int).toNat).drop (x7_1 : Int).toNat), t142, x5_1, (wrap64 ((wrap64 (x7_1 - x6_1)) + 1))⟩ : S46) [.int .i64 2, .string (strOfNums ((l0.take (x10_2 : Int).toNat).drop (x7_1 : Int).toNat)), .int .i64 t142, .int .i64 x5_1, .int .i64 (wrap64 ((wrap64 (x7_1 - x6_1)) + 1))] (fun _ => True) (fun _ => False) rfl rfl ?aP (fun _ hk => hk.elim) ?aF ?aO ?aB ?aS ?aL ?_; (case aP => exact k46_mkM _ _ _ (⟨2, strOfNums ((l0.take (x10_2 : Int).toNat).drop (x7_1 : Int).toNat), t142, x5_1, (wrap64 ((wrap64 (x7_1 - x6_1)) + 1))⟩ : S46)); (case aB => exact (by repeat (first | (with_reducible first | exact HB.out | apply below_alloc | apply pw_below_drewN | apply below_drew1 | refine below_set ?_ GE117.out) | exact HB.out))); (case aF => exact (fun _ _ => trivial)); (case aO => exact (by (with_reducible repeat (first | apply Kd.R_alloc | apply Kd.R_drewN | apply Kd.R_drew)); exact HO_4.out)); (case aS => exact (below_size (by repeat (first | (with_reducible first | exact HB.out | apply below_alloc | apply pw_below_drewN | apply below_drew1 | refine below_set ?_ GE117.out) | exact HB.out)))); (case aL => have := LMc47.out; omega); intro v146 w52 ho hb hg hat; rw [← Ny145.out] at ho; have n0_ := Aside0.mk (blk_grown (g := gb117) (o := .cells #[.int .i64 x118000_1, .int .i64 x118001_1, .int .i64 x118002_1] 29 (0, 0)) (by (with_reducible repeat (first | refine blk_drewN ?_ _ | refine blk_drew ?_ | refine blk_alloc ?_ _)); exact BK117.out) hg (Kd.R_ne HO_4.out BK117.out (by decide))); have n1_ := Aside0.mk (hb); have n2_ := Aside0.mk (ho); clear BK117; clear HB; clear HO_4; have BK117 := n0_; have HB := n1_; have HO147 := n2_; clear n0_ n1_ n2_; clear ho hb hg hat))
                 go_roundg k2
                 case measure => have := HK1.out; have := HK2.out; omega
                 case rel => exact ⟨(y145), (x5_1), (x6_1), (x10_2), (x118000_1), (x118001_1), (x118002_1), (by first | rfl | (simp; done) | (simp [*]; done)), (by first | rfl | (simp; done) | (simp [*]; done)), (by first | rfl | (simp; done) | (simp [*]; done)), H', ⟨by have := HK1.out; have := HK2.out; omega⟩, ⟨by (with_reducible repeat (first | apply Kd.R_alloc | apply Kd.R_drewN | apply Kd.R_drew)); exact HO147.out⟩, ⟨by (with_reducible repeat (first | refine blk_drewN ?_ _ | refine blk_drew ?_ | refine blk_alloc ?_ _)); exact BK117.out⟩, ⟨by repeat (first | (with_reducible first | exact HB.out | apply below_alloc | apply pw_below_drewN | apply below_drew1 | refine below_set ?_ GE117.out) | exact HB.out)⟩⟩
                ·rw [if_neg c47] at H
                 exact absurd H (by simp)
               ·replace c43 := Bool.eq_false_iff.mpr c43
                subst c43
                have H1 : (some (([] : List (S46)), 2, x5_1, (wrap64 ((wrap64 (x7_1 - x6_1)) + 1)))) = some (r1, r2, r3, r4) := by rw [if_neg (show ¬ (false = true) by decide)] at H; exact H
                clear H
                have H := H1
                clear H1
                simp only [Option.some.injEq, Prod.mk.injEq] at H
                obtain ⟨rfl, rfl, rfl, rfl⟩ := H
                have p139 : 0 ≤ (x10_2 : Int) := of_decide_eq_true (by first | (with_reducible assumption) | assumption)
                have q139 : x10_2 < (l0.length : Int) := of_decide_eq_true (by first | (with_reducible assumption) | assumption)
                obtain ⟨ad139, e139, hx139_0⟩ := Kd.at_int HR0.out x10_2 p139 q139
                obtain rfl : ad121 = ad139 := (by injection e139)
                replace hx139_0 := (HB.out.cell (World.block_lt_of_cell? w _ hx139_0)).trans hx139_0
                replace p139 := eq_true p139
                replace q139 := eq_true q139
                go_wp2_with (first | (go_at_call 35; (with_reducible refine (pendulumref04_kind.calls k2 (rd l0 x10_2) t140 _ A37.out).mono ?_); rintro e w' ⟨rfl, ⟨nd, rfl⟩⟩; (try (rw [drewN_self wr]; generalize hq_ : World.drewN wr _ = wr; have n0_ : Aside0 (Kd.R k46 46 wr w.heap.size (fun _ => True) u4 x4_1) := ⟨by rw [← hq_]; exact (by (with_reducible repeat (first | apply Kd.R_alloc | apply Kd.R_drewN | apply Kd.R_drew)); exact HO_4.out)⟩; have n1_ : Aside0 (wr.heap[gb117]? = some (.cells #[.int .i64 x118000_1, .int .i64 x118001_1, .int .i64 x118002_1] 29 (0, 0))) := ⟨by rw [← hq_]; exact (by (with_reducible repeat (first | refine blk_drewN ?_ _ | refine blk_drew ?_ | refine blk_alloc ?_ _)); exact BK117.out)⟩; have n2_ : Aside0 (Below w.heap.size w wr) := ⟨by rw [← hq_]; exact (by repeat (first | (with_reducible first | exact HB.out | apply below_alloc | apply pw_below_drewN | apply below_drew1 | refine below_set ?_ GE117.out) | exact HB.out))⟩; clear HO_4 BK117 HB hq_; have HO_4 := n0_; have BK117 := n1_; have HB := n2_; clear n0_ n1_ n2_)); obtain ⟨i053, hi053, _, hsz53, _⟩ := info_parts info5; obtain ⟨A53, hcut53, hA53, hC53⟩ := print_mid_of (P := Tryd.prog) (Value.int .u8) 0 22 5 .i64 .i64 Tryd.underlying22 hi053 hsz53 (some ad121) c0 l0 x7_1 x10_2 (of_decide_eq_true (by first | (with_reducible assumption) | assumption)) (by first | omega | exact of_decide_eq_true (by first | (with_reducible assumption) | assumption)) (of_decide_eq_true (by first | (with_reducible assumption) | assumption)) HC0.out; have HR141 := Aside0.mk (Kd.C_of_reads (h1 := fun _ => rfl) (hA53 _ (Kd.reads_of_C HR0.out))); have HC141 := Aside0.mk hC53; clear hA53 hC53 hi053 hsz53; have hcv54 := fun m_ => Kd.C_string (P := Tryd.prog) (A := A53) (c := (c0 - x7_1.toNat)) Tryd.underlying22 Tryd.underlying5 Tryd.underlying9 (Kd.C_drewN (Kd.C_below HR141.out HB.out) m_); have hcv54' := Kd.C_string (P := Tryd.prog) (A := A53) (c := (c0 - x7_1.toNat)) Tryd.underlying22 Tryd.underlying5 Tryd.underlying9 (Kd.C_below HR141.out HB.out); (try simp only [List.length_drop, List.length_take] at hcv54 hcv54'); (try rw [Nat.min_eq_left (Int.toNat_le.mpr (of_decide_eq_true (by first | (with_reducible assumption) | assumption)))] at hcv54'); (try simp only [Nat.min_eq_left (Int.toNat_le.mpr (of_decide_eq_true (by first | (with_reducible assumption) | assumption)))] at hcv54)) | ((with_reducible refine gate_callee (f := 36) rfl ?_); refine goesL_ (some 85) rfl rfl Tryd.func36 (by kernel_rfl) rfl #[.string (strOfNums ((l0.take (x10_2 : Int).toNat).drop (x7_1 : Int).toNat))] rfl (by (try simp only [List.map_toArray, List.map_cons, List.map_nil]); first | done | rfl | (simp only [List.length_drop, List.length_take]; rfl)) ?_; (with_reducible refine (pendulumref04_Value.calls k2 (strOfNums ((l0.take (x10_2 : Int).toNat).drop (x7_1 : Int).toNat)) t142 false _ A42.out).mono ?_); rintro e w' ⟨rfl, ⟨nd, rfl⟩⟩; refine ⟨_, rfl, ?_⟩; (try (rw [drewN_self wr]; generalize hq_ : World.drewN wr _ = wr; have n0_ : Aside0 (Kd.R k46 46 wr w.heap.size (fun _ => True) u4 x4_1) := ⟨by rw [← hq_]; exact (by (with_reducible repeat (first | apply Kd.R_alloc | apply Kd.R_drewN | apply Kd.R_drew)); exact HO_4.out)⟩; have n1_ : Aside0 (wr.heap[gb117]? = some (.cells #[.int .i64 x118000_1, .int .i64 x118001_1, .int .i64 x118002_1] 29 (0, 0))) := ⟨by rw [← hq_]; exact (by (with_reducible repeat (first | refine blk_drewN ?_ _ | refine blk_drew ?_ | refine blk_alloc ?_ _)); exact BK117.out)⟩; have n2_ : Aside0 (Below w.heap.size w wr) := ⟨by rw [← hq_]; exact (by repeat (first | (with_reducible first | exact HB.out | apply below_alloc | apply pw_below_drewN | apply below_drew1 | refine below_set ?_ GE117.out) | exact HB.out))⟩; clear HO_4 BK117 HB hq_; have HO_4 := n0_; have BK117 := n1_; have HB := n2_; clear n0_ n1_ n2_)); have hcz55_0 : wr.cell? ⟨gb117, 0, none⟩ = some (.int .i64 x118000_1) := (blk_cell BK117.out 0).trans rfl; have hcz55_1 : wr.cell? ⟨gb117, 1, none⟩ = some (.int .i64 x118001_1) := (blk_cell BK117.out 1).trans rfl; have hcz55_2 : wr.cell? ⟨gb117, 2, none⟩ = some (.int .i64 x118002_1) := (blk_cell BK117.out 2).trans rfl; have hfz55_0 := blk_frozen BK117.out 0; have hfz55_1 := blk_frozen BK117.out 1; have hfz55_2 := blk_frozen BK117.out 2))
                refine bodyPost_ret (results_tc rfl _ _ gb117 29 #[.int .i64 2, .int .i64 x5_1, .int .i64 (wrap64 ((wrap64 (x7_1 - x6_1)) + 1))] (0, 0) _ rfl (by (with_reducible repeat (first | refine blk_drewN ?_ _ | refine blk_drew ?_ | refine blk_alloc ?_ _)); refine blk_put (cs := #[.int .i64 2, .int .i64 x5_1, .int .i64 x118002_1]) ?_ 2 _ rfl; (with_reducible repeat (first | refine blk_drewN ?_ _ | refine blk_drew ?_ | refine blk_alloc ?_ _)); refine blk_put (cs := #[.int .i64 2, .int .i64 x118001_1, .int .i64 x118002_1]) ?_ 1 _ rfl; (with_reducible repeat (first | refine blk_drewN ?_ _ | refine blk_drew ?_ | refine blk_alloc ?_ _)); refine blk_put (cs := #[.int .i64 x118000_1, .int .i64 x118001_1, .int .i64 x118002_1]) ?_ 0 _ rfl; (with_reducible repeat (first | refine blk_drewN ?_ _ | refine blk_drew ?_ | refine blk_alloc ?_ _)); exact BK117.out) Tryd.underlying29 rfl (by kernel_rfl)) rfl ?_
                exact ⟨_, by first | rfl | (simp [errW_none, errW_some] <;> rfl) | (simp [*, errW_none, errW_some] <;> rfl), by first | exact Kd.R_nil _ _ _ _ _ | exact Kd.N_nil _ _ _ _ _ | exact Kd.V_nil _ _ _ _ _ | exact Kd.Q_nil _ _ _ _ _ | exact Kd.S_nil _ _ _ _ _, by repeat (first | (with_reducible first | exact HB.out | apply below_alloc | apply pw_below_drewN | apply below_drew1 | refine below_set ?_ GE117.out) | exact HB.out)⟩
              ·rw [if_neg c41] at H
               exact absurd H (by simp)
             ·rw [if_neg c40] at H
              exact absurd H (by simp)
            ·rw [if_neg c39] at H
             exact absurd H (by simp)
          ·rw [if_neg c36] at H
           exact absurd H (by simp)
         ·rw [if_neg c35] at H
          have c35b0 : decide (x10_2 < (l0.length : Int)) = false := decide_eq_false c35
          clear c35
          by_cases c56 : 0 ≤ x7_1
          ·rw [if_pos c56] at H
           have c56b0 := eq_true c56
           have c56b1 : decide (0 ≤ x7_1) = true := decide_eq_true c56
           clear c56
           by_cases c57 : x7_1 ≤ x10_2
           ·rw [if_pos c57] at H
            have c57b0 := eq_true c57
            have c57b1 : decide (x7_1 ≤ x10_2) = true := decide_eq_true c57
            clear c57
            by_cases c58 : x10_2 ≤ (l0.length : Int)
            ·rw [if_pos c58] at H
             have c58b0 := eq_true c58
             have c58b1 : decide (x10_2 ≤ (l0.length : Int)) = true := decide_eq_true c58
             clear c58
             replace H := Option.bind_eq_some_iff.mp H
             obtain ⟨⟨t149, t150⟩, A590, H⟩ := H
             replace H : (if t150 = true then (if x4_1.length < 2932031007402 then (pendulumref04_Tokens.l0 k2 l0 (x4_1 ++ [(⟨2, strOfNums ((l0.take (x10_2 : Int).toNat).drop (x7_1 : Int).toNat), t149, x5_1, (wrap64 ((wrap64 (x7_1 - x6_1)) + 1))⟩ : S46)]) x5_1 x6_1 x10_2) else (none)) else (some (([] : List (S46)), 2, x5_1, (wrap64 ((wrap64 (x7_1 - x6_1)) + 1))))) = some (r1, r2, r3, r4) := H
             have A59 := Aside0.mk A590
             clear A590
             by_cases c60 : t150 = true
             ·subst c60
              have H1 : (if x4_1.length < 2932031007402 then (pendulumref04_Tokens.l0 k2 l0 (x4_1 ++ [(⟨2, strOfNums ((l0.take (x10_2 : Int).toNat).drop (x7_1 : Int).toNat), t149, x5_1, (wrap64 ((wrap64 (x7_1 - x6_1)) + 1))⟩ : S46)]) x5_1 x6_1 x10_2) else (none)) = some (r1, r2, r3, r4) := by rw [if_pos rfl] at H; exact H
              clear H
              have H := H1
              clear H1
              have c61b0 := eq_true (of_decide_eq_true (by first | (with_reducible assumption) | assumption) : 0 ≤ x7_1)
              have c62b0 := eq_true (of_decide_eq_true (by first | (with_reducible assumption) | assumption) : x7_1 ≤ x10_2)
              have c63b0 := eq_true (of_decide_eq_true (by first | (with_reducible assumption) | assumption) : x10_2 ≤ (l0.length : Int))
              by_cases c64 : x4_1.length < 2932031007402
              ·rw [if_pos c64] at H
               have LMc64 := Aside0.mk c64
               clear c64
               obtain ⟨y152, hy152⟩ : ∃ y_ : List (S46), y_ = (x4_1 ++ [(⟨2, strOfNums ((l0.take (x10_2 : Int).toNat).drop (x7_1 : Int).toNat), t149, x5_1, (wrap64 ((wrap64 (x7_1 - x6_1)) + 1))⟩ : S46)]) := ⟨_, rfl⟩
               replace H : (pendulumref04_Tokens.l0 k2 l0 y152 x5_1 x6_1 x10_2) = some (r1, r2, r3, r4) := by first | (rw [hy152]; with_reducible exact H) | (have H2_ := (Option.bind_some _ _).symm.trans H; rw [hy152]; with_reducible exact H2_) | (have H2_ := (Option.bind_some _ _).symm.trans H; with_reducible exact H2_) | with_reducible exact H | (rw [hy152]; exact H) | exact H
               have Ny152 := Aside0.mk hy152
               clear hy152
               have H' := Aside0.mk H
               clear H
               obtain ⟨i065, hi065, _, hsz65, _⟩ := info_parts info5
               obtain ⟨A65, hcut65, hA65, hC65⟩ := print_mid_of (P := Tryd.prog) (Value.int .u8) 0 22 5 .i64 .i64 Tryd.underlying22 hi065 hsz65 (some ad121) c0 l0 x7_1 x10_2 (of_decide_eq_true (by first | (with_reducible assumption) | assumption)) (by first | omega | exact of_decide_eq_true (by first | (with_reducible assumption) | assumption)) (of_decide_eq_true (by first | (with_reducible assumption) | assumption)) HC0.out
               have HR148 := Aside0.mk (Kd.C_of_reads (h1 := fun _ => rfl) (hA65 _ (Kd.reads_of_C HR0.out)))
               have HC148 := Aside0.mk hC65
               clear hA65 hC65 hi065 hsz65
               have hcv66 := fun m_ => Kd.C_string (P := Tryd.prog) (A := A65) (c := (c0 - x7_1.toNat)) Tryd.underlying22 Tryd.underlying5 Tryd.underlying9 (Kd.C_drewN (Kd.C_below HR148.out HB.out) m_); have hcv66' := Kd.C_string (P := Tryd.prog) (A := A65) (c := (c0 - x7_1.toNat)) Tryd.underlying22 Tryd.underlying5 Tryd.underlying9 (Kd.C_below HR148.out HB.out); (try simp only [List.length_drop, List.length_take] at hcv66 hcv66'); (try rw [Nat.min_eq_left (Int.toNat_le.mpr (of_decide_eq_true (by first | (with_reducible assumption) | assumption)))] at hcv66'); (try simp only [Nat.min_eq_left (Int.toNat_le.mpr (of_decide_eq_true (by first | (with_reducible assumption) | assumption)))] at hcv66)
               go_wp2_with (first | ((with_reducible refine gate_callee (f := 36) rfl ?_); refine goesL_ (some 85) rfl rfl Tryd.func36 (by kernel_rfl) rfl #[.string (strOfNums ((l0.take (x10_2 : Int).toNat).drop (x7_1 : Int).toNat))] rfl (by (try simp only [List.map_toArray, List.map_cons, List.map_nil]); first | done | rfl | (simp only [List.length_drop, List.length_take]; rfl)) ?_; (with_reducible refine (pendulumref04_Value.calls k2 (strOfNums ((l0.take (x10_2 : Int).toNat).drop (x7_1 : Int).toNat)) t149 true _ A59.out).mono ?_); rintro e w' ⟨rfl, ⟨nd, rfl⟩⟩; refine ⟨_, rfl, ?_⟩; obtain ⟨i067, hi067, _, hsz67, _⟩ := info_parts info5; obtain ⟨A67, hcut67, hA67, hC67⟩ := print_mid_of (P := Tryd.prog) (Value.int .u8) 0 22 5 .i64 .i64 Tryd.underlying22 hi067 hsz67 (some ad121) c0 l0 x7_1 x10_2 (of_decide_eq_true (by first | (with_reducible assumption) | assumption)) (by first | omega | exact of_decide_eq_true (by first | (with_reducible assumption) | assumption)) (of_decide_eq_true (by first | (with_reducible assumption) | assumption)) HC0.out; have HR151 := Aside0.mk (Kd.C_of_reads (h1 := fun _ => rfl) (hA67 _ (Kd.reads_of_C HR0.out))); have HC151 := Aside0.mk hC67; clear hA67 hC67 hi067 hsz67; have hcv68 := fun m_ => Kd.C_string (P := Tryd.prog) (A := A67) (c := (c0 - x7_1.toNat)) Tryd.underlying22 Tryd.underlying5 Tryd.underlying9 (Kd.C_drewN (Kd.C_below HR151.out HB.out) m_); have hcv68' := Kd.C_string (P := Tryd.prog) (A := A67) (c := (c0 - x7_1.toNat)) Tryd.underlying22 Tryd.underlying5 Tryd.underlying9 (Kd.C_below HR151.out HB.out); (try simp only [List.length_drop, List.length_take] at hcv68 hcv68'); (try rw [Nat.min_eq_left (Int.toNat_le.mpr (of_decide_eq_true (by first | (with_reducible assumption) | assumption)))] at hcv68'); (try simp only [Nat.min_eq_left (Int.toNat_le.mpr (of_decide_eq_true (by first | (with_reducible assumption) | assumption)))] at hcv68)) | ((with_reducible refine gate_builtin (b := .append) (xs := #[.tmp 93, .tmp 103]) rfl ?_); at_builtin; refine Kd.R_append k46 (w0 := w) w.heap.size rfl (.tmp 93) (.tmp 103) 41 46 (.agg #[(.int .i64 0), (.string ⟨#[]⟩), (.int .i64 0), (.int .i64 0), (.int .i64 0)]) 48 rfl Tryd.underlying41 info46 rfl (by decide) (by omega) u4 x4_1 (⟨2, strOfNums ((l0.take (x10_2 : Int).toNat).drop (x7_1 : Int).toNat), t149, x5_1, (wrap64 ((wrap64 (x7_1 - x6_1)) + 1))⟩ : S46) [.int .i64 2, .string (strOfNums ((l0.take (x10_2 : Int).toNat).drop (x7_1 : Int).toNat)), .int .i64 t149, .int .i64 x5_1, .int .i64 (wrap64 ((wrap64 (x7_1 - x6_1)) + 1))] (fun _ => True) (fun _ => False) rfl rfl ?aP (fun _ hk => hk.elim) ?aF ?aO ?aB ?aS ?aL ?_; (case aP => exact k46_mkM _ _ _ (⟨2, strOfNums ((l0.take (x10_2 : Int).toNat).drop (x7_1 : Int).toNat), t149, x5_1, (wrap64 ((wrap64 (x7_1 - x6_1)) + 1))⟩ : S46)); (case aB => exact (by repeat (first | (with_reducible first | exact HB.out | apply below_alloc | apply pw_below_drewN | apply below_drew1 | refine below_set ?_ GE117.out) | exact HB.out))); (case aF => exact (fun _ _ => trivial)); (case aO => exact (by (with_reducible repeat (first | apply Kd.R_alloc | apply Kd.R_drewN | apply Kd.R_drew)); exact HO_4.out)); (case aS => exact (below_size (by repeat (first | (with_reducible first | exact HB.out | apply below_alloc | apply pw_below_drewN | apply below_drew1 | refine below_set ?_ GE117.out) | exact HB.out)))); (case aL => have := LMc64.out; omega); intro v153 w69 ho hb hg hat; rw [← Ny152.out] at ho; have n0_ := Aside0.mk (blk_grown (g := gb117) (o := .cells #[.int .i64 x118000_1, .int .i64 x118001_1, .int .i64 x118002_1] 29 (0, 0)) (by (with_reducible repeat (first | refine blk_drewN ?_ _ | refine blk_drew ?_ | refine blk_alloc ?_ _)); exact BK117.out) hg (Kd.R_ne HO_4.out BK117.out (by decide))); have n1_ := Aside0.mk (hb); have n2_ := Aside0.mk (ho); clear BK117; clear HB; clear HO_4; have BK117 := n0_; have HB := n1_; have HO154 := n2_; clear n0_ n1_ n2_; clear ho hb hg hat))
               go_roundg k2
               case measure => have := HK1.out; have := HK2.out; omega
               case rel => exact ⟨(y152), (x5_1), (x6_1), (x10_2), (x118000_1), (x118001_1), (x118002_1), (by first | rfl | (simp; done) | (simp [*]; done)), (by first | rfl | (simp; done) | (simp [*]; done)), (by first | rfl | (simp; done) | (simp [*]; done)), H', ⟨by have := HK1.out; have := HK2.out; omega⟩, ⟨by (with_reducible repeat (first | apply Kd.R_alloc | apply Kd.R_drewN | apply Kd.R_drew)); exact HO154.out⟩, ⟨by (with_reducible repeat (first | refine blk_drewN ?_ _ | refine blk_drew ?_ | refine blk_alloc ?_ _)); exact BK117.out⟩, ⟨by repeat (first | (with_reducible first | exact HB.out | apply below_alloc | apply pw_below_drewN | apply below_drew1 | refine below_set ?_ GE117.out) | exact HB.out)⟩⟩
              ·rw [if_neg c64] at H
               exact absurd H (by simp)
             ·replace c60 := Bool.eq_false_iff.mpr c60
              subst c60
              have H1 : (some (([] : List (S46)), 2, x5_1, (wrap64 ((wrap64 (x7_1 - x6_1)) + 1)))) = some (r1, r2, r3, r4) := by rw [if_neg (show ¬ (false = true) by decide)] at H; exact H
              clear H
              have H := H1
              clear H1
              simp only [Option.some.injEq, Prod.mk.injEq] at H
              obtain ⟨rfl, rfl, rfl, rfl⟩ := H
              obtain ⟨i070, hi070, _, hsz70, _⟩ := info_parts info5
              obtain ⟨A70, hcut70, hA70, hC70⟩ := print_mid_of (P := Tryd.prog) (Value.int .u8) 0 22 5 .i64 .i64 Tryd.underlying22 hi070 hsz70 (some ad121) c0 l0 x7_1 x10_2 (of_decide_eq_true (by first | (with_reducible assumption) | assumption)) (by first | omega | exact of_decide_eq_true (by first | (with_reducible assumption) | assumption)) (of_decide_eq_true (by first | (with_reducible assumption) | assumption)) HC0.out
              have HR148 := Aside0.mk (Kd.C_of_reads (h1 := fun _ => rfl) (hA70 _ (Kd.reads_of_C HR0.out)))
              have HC148 := Aside0.mk hC70
              clear hA70 hC70 hi070 hsz70
              have hcv71 := fun m_ => Kd.C_string (P := Tryd.prog) (A := A70) (c := (c0 - x7_1.toNat)) Tryd.underlying22 Tryd.underlying5 Tryd.underlying9 (Kd.C_drewN (Kd.C_below HR148.out HB.out) m_); have hcv71' := Kd.C_string (P := Tryd.prog) (A := A70) (c := (c0 - x7_1.toNat)) Tryd.underlying22 Tryd.underlying5 Tryd.underlying9 (Kd.C_below HR148.out HB.out); (try simp only [List.length_drop, List.length_take] at hcv71 hcv71'); (try rw [Nat.min_eq_left (Int.toNat_le.mpr (of_decide_eq_true (by first | (with_reducible assumption) | assumption)))] at hcv71'); (try simp only [Nat.min_eq_left (Int.toNat_le.mpr (of_decide_eq_true (by first | (with_reducible assumption) | assumption)))] at hcv71)
              go_wp2_with (first | ((with_reducible refine gate_callee (f := 36) rfl ?_); refine goesL_ (some 85) rfl rfl Tryd.func36 (by kernel_rfl) rfl #[.string (strOfNums ((l0.take (x10_2 : Int).toNat).drop (x7_1 : Int).toNat))] rfl (by (try simp only [List.map_toArray, List.map_cons, List.map_nil]); first | done | rfl | (simp only [List.length_drop, List.length_take]; rfl)) ?_; (with_reducible refine (pendulumref04_Value.calls k2 (strOfNums ((l0.take (x10_2 : Int).toNat).drop (x7_1 : Int).toNat)) t149 false _ A59.out).mono ?_); rintro e w' ⟨rfl, ⟨nd, rfl⟩⟩; refine ⟨_, rfl, ?_⟩; (try (rw [drewN_self wr]; generalize hq_ : World.drewN wr _ = wr; have n0_ : Aside0 (Kd.R k46 46 wr w.heap.size (fun _ => True) u4 x4_1) := ⟨by rw [← hq_]; exact (by (with_reducible repeat (first | apply Kd.R_alloc | apply Kd.R_drewN | apply Kd.R_drew)); exact HO_4.out)⟩; have n1_ : Aside0 (wr.heap[gb117]? = some (.cells #[.int .i64 x118000_1, .int .i64 x118001_1, .int .i64 x118002_1] 29 (0, 0))) := ⟨by rw [← hq_]; exact (by (with_reducible repeat (first | refine blk_drewN ?_ _ | refine blk_drew ?_ | refine blk_alloc ?_ _)); exact BK117.out)⟩; have n2_ : Aside0 (Below w.heap.size w wr) := ⟨by rw [← hq_]; exact (by repeat (first | (with_reducible first | exact HB.out | apply below_alloc | apply pw_below_drewN | apply below_drew1 | refine below_set ?_ GE117.out) | exact HB.out))⟩; clear HO_4 BK117 HB hq_; have HO_4 := n0_; have BK117 := n1_; have HB := n2_; clear n0_ n1_ n2_)); have hcz72_0 : wr.cell? ⟨gb117, 0, none⟩ = some (.int .i64 x118000_1) := (blk_cell BK117.out 0).trans rfl; have hcz72_1 : wr.cell? ⟨gb117, 1, none⟩ = some (.int .i64 x118001_1) := (blk_cell BK117.out 1).trans rfl; have hcz72_2 : wr.cell? ⟨gb117, 2, none⟩ = some (.int .i64 x118002_1) := (blk_cell BK117.out 2).trans rfl; have hfz72_0 := blk_frozen BK117.out 0; have hfz72_1 := blk_frozen BK117.out 1; have hfz72_2 := blk_frozen BK117.out 2))
              refine bodyPost_ret (results_tc rfl _ _ gb117 29 #[.int .i64 2, .int .i64 x5_1, .int .i64 (wrap64 ((wrap64 (x7_1 - x6_1)) + 1))] (0, 0) _ rfl (by (with_reducible repeat (first | refine blk_drewN ?_ _ | refine blk_drew ?_ | refine blk_alloc ?_ _)); refine blk_put (cs := #[.int .i64 2, .int .i64 x5_1, .int .i64 x118002_1]) ?_ 2 _ rfl; (with_reducible repeat (first | refine blk_drewN ?_ _ | refine blk_drew ?_ | refine blk_alloc ?_ _)); refine blk_put (cs := #[.int .i64 2, .int .i64 x118001_1, .int .i64 x118002_1]) ?_ 1 _ rfl; (with_reducible repeat (first | refine blk_drewN ?_ _ | refine blk_drew ?_ | refine blk_alloc ?_ _)); refine blk_put (cs := #[.int .i64 x118000_1, .int .i64 x118001_1, .int .i64 x118002_1]) ?_ 0 _ rfl; (with_reducible repeat (first | refine blk_drewN ?_ _ | refine blk_drew ?_ | refine blk_alloc ?_ _)); exact BK117.out) Tryd.underlying29 rfl (by kernel_rfl)) rfl ?_
              exact ⟨_, by first | rfl | (simp [errW_none, errW_some] <;> rfl) | (simp [*, errW_none, errW_some] <;> rfl), by first | exact Kd.R_nil _ _ _ _ _ | exact Kd.N_nil _ _ _ _ _ | exact Kd.V_nil _ _ _ _ _ | exact Kd.Q_nil _ _ _ _ _ | exact Kd.S_nil _ _ _ _ _, by repeat (first | (with_reducible first | exact HB.out | apply below_alloc | apply pw_below_drewN | apply below_drew1 | refine below_set ?_ GE117.out) | exact HB.out)⟩
            ·rw [if_neg c58] at H
             exact absurd H (by simp)
           ·rw [if_neg c57] at H
            exact absurd H (by simp)
          ·rw [if_neg c56] at H
           exact absurd H (by simp)
      ·rw [if_neg c34] at H
       have c34b0 : (t122 == 2) = false := beq_eq_false_iff_ne.mpr c34
       have c34b1 : (t122 != 2) = true := bne_iff_ne.mpr c34
       by_cases c73 : t122 = 5
       ·rw [if_pos c73] at H
        have c73b0 : (t122 == 5) = true := beq_iff_eq.mpr c73
        have c73b1 : (t122 != 5) = false := bne_eq_false_iff_eq.mpr c73
        clear c73
        by_cases c74 : x4_1.length < 2932031007402
        ·rw [if_pos c74] at H
         have LMc74 := Aside0.mk c74
         clear c74
         obtain ⟨y155, hy155⟩ : ∃ y_ : List (S46), y_ = (x4_1 ++ [(⟨3, (⟨#[]⟩ : ByteArray), 0, x5_1, wrap64 ((wrap64 (x7_1 - x6_1)) + 1)⟩ : S46)]) := ⟨_, rfl⟩
         replace H : (pendulumref04_Tokens.l0 k1 l0 y155 (wrap64 (x5_1 + 1)) (wrap64 (x7_1 + 1)) (wrap64 (x7_1 + 1))) = some (r1, r2, r3, r4) := by first | (rw [hy155]; with_reducible exact H) | (have H2_ := (Option.bind_some _ _).symm.trans H; rw [hy155]; with_reducible exact H2_) | (have H2_ := (Option.bind_some _ _).symm.trans H; with_reducible exact H2_) | with_reducible exact H | (rw [hy155]; exact H) | exact H
         have Ny155 := Aside0.mk hy155
         clear hy155
         have H' := Aside0.mk H
         clear H
         have p121 : 0 ≤ (x7_1 : Int) := of_decide_eq_true (by first | (with_reducible assumption) | assumption)
         have q121 : x7_1 < (l0.length : Int) := of_decide_eq_true (by first | (with_reducible assumption) | assumption)
         obtain ⟨ad121, e121, hx121_0⟩ := Kd.at_int HR0.out x7_1 p121 q121
         cases e121
         replace hx121_0 := (HB.out.cell (World.block_lt_of_cell? w _ hx121_0)).trans hx121_0
         replace p121 := eq_true p121
         replace q121 := eq_true q121
         go_wp2_with (first | ((with_reducible refine gate_callee (f := 35) rfl ?_); refine goesL_ (some 25) rfl rfl Tryd.func35 (by kernel_rfl) rfl #[.int .u8 (rd l0 x7_1)] rfl (by (try simp only [List.map_toArray, List.map_cons, List.map_nil]); first | done | rfl | (simp only [List.length_drop, List.length_take]; rfl)) ?_; (with_reducible refine (pendulumref04_kind.calls k1 (rd l0 x7_1) t122 _ A5.out).mono ?_); rintro e w' ⟨rfl, ⟨nd, rfl⟩⟩; refine ⟨_, rfl, ?_⟩) | ((with_reducible refine gate_builtin (b := .append) (xs := #[.tmp 107, .tmp 111]) rfl ?_); at_builtin; refine Kd.R_append k46 (w0 := w) w.heap.size rfl (.tmp 107) (.tmp 111) 41 46 (.agg #[(.int .i64 0), (.string ⟨#[]⟩), (.int .i64 0), (.int .i64 0), (.int .i64 0)]) 48 rfl Tryd.underlying41 info46 rfl (by decide) (by omega) u4 x4_1 (⟨3, (⟨#[]⟩ : ByteArray), 0, x5_1, wrap64 ((wrap64 (x7_1 - x6_1)) + 1)⟩ : S46) [.int .i64 3, .string (⟨#[]⟩ : ByteArray), .int .i64 0, .int .i64 x5_1, .int .i64 (wrap64 ((wrap64 (x7_1 - x6_1)) + 1))] (fun _ => True) (fun _ => False) rfl rfl ?aP (fun _ hk => hk.elim) ?aF ?aO ?aB ?aS ?aL ?_; (case aP => exact k46_mkM _ _ _ (⟨3, (⟨#[]⟩ : ByteArray), 0, x5_1, wrap64 ((wrap64 (x7_1 - x6_1)) + 1)⟩ : S46)); (case aB => exact (by repeat (first | (with_reducible first | exact HB.out | apply below_alloc | apply pw_below_drewN | apply below_drew1 | refine below_set ?_ GE117.out) | exact HB.out))); (case aF => exact (fun _ _ => trivial)); (case aO => exact (by (with_reducible repeat (first | apply Kd.R_alloc | apply Kd.R_drewN | apply Kd.R_drew)); exact HO_4.out)); (case aS => exact (below_size (by repeat (first | (with_reducible first | exact HB.out | apply below_alloc | apply pw_below_drewN | apply below_drew1 | refine below_set ?_ GE117.out) | exact HB.out)))); (case aL => have := LMc74.out; omega); intro v156 w75 ho hb hg hat; rw [← Ny155.out] at ho; have n0_ := Aside0.mk (blk_grown (g := gb117) (o := .cells #[.int .i64 x118000_1, .int .i64 x118001_1, .int .i64 x118002_1] 29 (0, 0)) (by (with_reducible repeat (first | refine blk_drewN ?_ _ | refine blk_drew ?_ | refine blk_alloc ?_ _)); exact BK117.out) hg (Kd.R_ne HO_4.out BK117.out (by decide))); have n1_ := Aside0.mk (hb); have n2_ := Aside0.mk (ho); clear BK117; clear HB; clear HO_4; have BK117 := n0_; have HB := n1_; have HO157 := n2_; clear n0_ n1_ n2_; clear ho hb hg hat))
         go_roundg k1
         case measure => have := HK1.out; omega
         case rel => exact ⟨(y155), (wrap64 (x5_1 + 1)), (wrap64 (x7_1 + 1)), (wrap64 (x7_1 + 1)), (x118000_1), (x118001_1), (x118002_1), (by first | rfl | (simp; done) | (simp [*]; done)), (by first | rfl | (simp; done) | (simp [*]; done)), (by first | rfl | (simp; done) | (simp [*]; done)), H', ⟨by have := HK1.out; omega⟩, ⟨by (with_reducible repeat (first | apply Kd.R_alloc | apply Kd.R_drewN | apply Kd.R_drew)); exact HO157.out⟩, ⟨by (with_reducible repeat (first | refine blk_drewN ?_ _ | refine blk_drew ?_ | refine blk_alloc ?_ _)); exact BK117.out⟩, ⟨by repeat (first | (with_reducible first | exact HB.out | apply below_alloc | apply pw_below_drewN | apply below_drew1 | refine below_set ?_ GE117.out) | exact HB.out)⟩⟩
        ·rw [if_neg c74] at H
         exact absurd H (by simp)
       ·rw [if_neg c73] at H
        have c73b0 : (t122 == 5) = false := beq_eq_false_iff_ne.mpr c73
        have c73b1 : (t122 != 5) = true := bne_iff_ne.mpr c73
        by_cases c76 : t122 = 6
        ·rw [if_pos c76] at H
         have c76b0 : (t122 == 6) = true := beq_iff_eq.mpr c76
         have c76b1 : (t122 != 6) = false := bne_eq_false_iff_eq.mpr c76
         clear c76
         have H' := Aside0.mk H
         clear H
         have p121 : 0 ≤ (x7_1 : Int) := of_decide_eq_true (by first | (with_reducible assumption) | assumption)
         have q121 : x7_1 < (l0.length : Int) := of_decide_eq_true (by first | (with_reducible assumption) | assumption)
         obtain ⟨ad121, e121, hx121_0⟩ := Kd.at_int HR0.out x7_1 p121 q121
         cases e121
         replace hx121_0 := (HB.out.cell (World.block_lt_of_cell? w _ hx121_0)).trans hx121_0
         replace p121 := eq_true p121
         replace q121 := eq_true q121
         go_wp2_with (first | ((with_reducible refine gate_callee (f := 35) rfl ?_); refine goesL_ (some 25) rfl rfl Tryd.func35 (by kernel_rfl) rfl #[.int .u8 (rd l0 x7_1)] rfl (by (try simp only [List.map_toArray, List.map_cons, List.map_nil]); first | done | rfl | (simp only [List.length_drop, List.length_take]; rfl)) ?_; (with_reducible refine (pendulumref04_kind.calls k1 (rd l0 x7_1) t122 _ A5.out).mono ?_); rintro e w' ⟨rfl, ⟨nd, rfl⟩⟩; refine ⟨_, rfl, ?_⟩))
         go_loopg [10] k1 (fun kq v10 w' => ∃ (x10_2 : Int), v10 = .int .i64 x10_2 ∧ Aside0 (pendulumref04_Tokens.l3 kq l0 x4_1 x5_1 x6_1 x10_2 = some (r1, r2, r3, r4)) ∧ Aside0 (kq ≤ k1) ∧ Aside0 (Kd.R k46 46 w' w.heap.size (fun _ => True) u4 x4_1) ∧ Aside0 (w'.heap[gb117]? = some (.cells #[.int .i64 x118000_1, .int .i64 x118001_1, .int .i64 x118002_1] 29 (0, 0))) ∧ Aside0 (Below w.heap.size w w'))
         case atStart => exact ⟨(wrap64 (x7_1 + 1)), (by first | rfl | (simp; done) | (simp [*]; done)), H', ⟨Nat.le_refl _⟩, ⟨by (with_reducible repeat (first | apply Kd.R_alloc | apply Kd.R_drewN | apply Kd.R_drew)); exact HO_4.out⟩, ⟨by (with_reducible repeat (first | refine blk_drewN ?_ _ | refine blk_drew ?_ | refine blk_alloc ?_ _)); exact BK117.out⟩, ⟨by repeat (first | (with_reducible first | exact HB.out | apply below_alloc | apply pw_below_drewN | apply below_drew1 | refine below_set ?_ GE117.out) | exact HB.out)⟩⟩
         case round =>
          clear H'
          try clear c1
          try clear p1
          try clear q1
          try clear hx1
          try clear hcv1
          try clear c2
          try clear p2
          try clear hcv2
          try clear c3
          try clear c3b0
          try clear hcv3
          try clear c4
          try clear c4b0
          try clear hcv4
          try clear c5
          try clear hcv5
          try clear c6
          try clear c6b0
          try clear c6b1
          try clear p6
          try clear hcv6
          try clear c7
          try clear c7b0
          try clear hcv7
          try clear c8
          try clear c8b0
          try clear c10
          try clear c10b0
          try clear c12
          try clear c12b0
          try clear p12
          try clear q12
          try clear hx12
          try clear c13
          try clear c13b0
          try clear c13b1
          try clear p13
          try clear q13
          try clear hx13
          try clear c14
          try clear c14b0
          try clear c14b1
          try clear c15
          try clear c15b0
          try clear c15b1
          try clear c16
          try clear hcv18
          try clear c20
          try clear c20b0
          try clear c20b1
          try clear c21
          try clear c21b0
          try clear c21b1
          try clear c22
          try clear c22b0
          try clear c22b1
          try clear c23
          try clear hcv25
          try clear c27
          try clear c27b0
          try clear c27b1
          try clear c28
          try clear c28b0
          try clear c28b1
          try clear c29
          try clear c29b0
          try clear c29b1
          try clear c30
          try clear hcv32
          try clear c34
          try clear c34b0
          try clear c34b1
          try clear c35
          try clear c35b0
          try clear c36
          try clear c36b0
          try clear c38
          try clear c38b0
          try clear c38b1
          try clear c39
          try clear c39b0
          try clear c39b1
          try clear c40
          try clear c40b0
          try clear c40b1
          try clear c41
          try clear c41b0
          try clear c41b1
          try clear c43
          try clear c44
          try clear c44b0
          try clear c45
          try clear c45b0
          try clear c46
          try clear c46b0
          try clear c47
          try clear hcv49
          try clear hcv51
          try clear hcv54
          try clear c56
          try clear c56b0
          try clear c56b1
          try clear c57
          try clear c57b0
          try clear c57b1
          try clear c58
          try clear c58b0
          try clear c58b1
          try clear c60
          try clear c61
          try clear c61b0
          try clear c62
          try clear c62b0
          try clear c63
          try clear c63b0
          try clear c64
          try clear p64
          try clear hcv66
          try clear hcv68
          try clear hcv71
          try clear c73
          try clear c73b0
          try clear c73b1
          try clear c74
          try clear c76
          try clear c76b0
          try clear c76b1
          try clear hcz55_0
          try clear hcz55_1
          try clear hcz55_2
          try clear hcz72_0
          try clear hcz72_1
          try clear hcz72_2
          try clear hfz55_0
          try clear hfz55_1
          try clear hfz55_2
          try clear hfz72_0
          try clear hfz72_1
          try clear hfz72_2
          try clear hx121_0
          try clear hx123_0
          try clear hx125_0
          try clear hx139_0
          try clear p1
          try clear p12
          try clear p121
          try clear p123
          try clear p125
          try clear p139
          try clear p2
          try clear p6
          try clear q1
          try clear q12
          try clear q121
          try clear q123
          try clear q125
          try clear q139
          obtain ⟨x10_2, rfl, HA, HK2, HO_4, BK117, HB⟩ := hrel
          cases gk with
          | zero => exact absurd HA.out (by simp [pendulumref04_Tokens.l3])
          | succ k2 =>
           have H := HA.out
           clear HA
           simp only [pendulumref04_Tokens.l3] at H
           by_cases c77 : x10_2 < (l0.length : Int)
           ·rw [if_pos c77] at H
            have c77b0 : decide (x10_2 < (l0.length : Int)) = true := decide_eq_true c77
            clear c77
            by_cases c78 : 0 ≤ x10_2
            ·rw [if_pos c78] at H
             have c78b0 : decide (0 ≤ x10_2) = true := decide_eq_true c78
             clear c78
             replace H := Option.bind_eq_some_iff.mp H
             obtain ⟨t159, A790, H⟩ := H
             replace H : (if t159 = 5 then (pendulumref04_Tokens.l0 k2 l0 x4_1 x5_1 x6_1 x10_2) else (pendulumref04_Tokens.l3 k2 l0 x4_1 x5_1 x6_1 (wrap64 (x10_2 + 1)))) = some (r1, r2, r3, r4) := H
             have A79 := Aside0.mk A790
             clear A790
             by_cases c80 : t159 = 5
             ·rw [if_pos c80] at H
              have c80b0 : (t159 == 5) = true := beq_iff_eq.mpr c80
              have c80b1 : (t159 != 5) = false := bne_eq_false_iff_eq.mpr c80
              clear c80
              have H' := Aside0.mk H
              clear H
              have p158 : 0 ≤ (x10_2 : Int) := of_decide_eq_true (by first | (with_reducible assumption) | assumption)
              have q158 : x10_2 < (l0.length : Int) := of_decide_eq_true (by first | (with_reducible assumption) | assumption)
              obtain ⟨ad158, e158, hx158_0⟩ := Kd.at_int HR0.out x10_2 p158 q158
              obtain rfl : ad121 = ad158 := (by injection e158)
              replace hx158_0 := (HB.out.cell (World.block_lt_of_cell? w _ hx158_0)).trans hx158_0
              replace p158 := eq_true p158
              replace q158 := eq_true q158
              go_wp2_with (first | (go_at_call 35; (with_reducible refine (pendulumref04_kind.calls k2 (rd l0 x10_2) t159 _ A79.out).mono ?_); rintro e w' ⟨rfl, ⟨nd, rfl⟩⟩))
              go_roundg k2
              case measure => have := HK1.out; have := HK2.out; omega
              case rel => exact ⟨(x4_1), (x5_1), (x6_1), (x10_2), (x118000_1), (x118001_1), (x118002_1), (by first | rfl | (simp; done) | (simp [*]; done)), (by first | rfl | (simp; done) | (simp [*]; done)), (by first | rfl | (simp; done) | (simp [*]; done)), H', ⟨by have := HK1.out; have := HK2.out; omega⟩, ⟨by (with_reducible repeat (first | apply Kd.R_alloc | apply Kd.R_drewN | apply Kd.R_drew)); exact HO_4.out⟩, ⟨by (with_reducible repeat (first | refine blk_drewN ?_ _ | refine blk_drew ?_ | refine blk_alloc ?_ _)); exact BK117.out⟩, ⟨by repeat (first | (with_reducible first | exact HB.out | apply below_alloc | apply pw_below_drewN | apply below_drew1 | refine below_set ?_ GE117.out) | exact HB.out)⟩⟩
             ·rw [if_neg c80] at H
              have c80b0 : (t159 == 5) = false := beq_eq_false_iff_ne.mpr c80
              have c80b1 : (t159 != 5) = true := bne_iff_ne.mpr c80
              have H' := Aside0.mk H
              clear H
              have p158 : 0 ≤ (x10_2 : Int) := of_decide_eq_true (by first | (with_reducible assumption) | assumption)
              have q158 : x10_2 < (l0.length : Int) := of_decide_eq_true (by first | (with_reducible assumption) | assumption)
              obtain ⟨ad158, e158, hx158_0⟩ := Kd.at_int HR0.out x10_2 p158 q158
              obtain rfl : ad121 = ad158 := (by injection e158)
              replace hx158_0 := (HB.out.cell (World.block_lt_of_cell? w _ hx158_0)).trans hx158_0
              replace p158 := eq_true p158
              replace q158 := eq_true q158
              go_wp2_with (first | (go_at_call 35; (with_reducible refine (pendulumref04_kind.calls k2 (rd l0 x10_2) t159 _ A79.out).mono ?_); rintro e w' ⟨rfl, ⟨nd, rfl⟩⟩))
              go_roundg k2
              case measure => have := HK1.out; have := HK2.out; omega
              case rel => exact ⟨(wrap64 (x10_2 + 1)), (by first | rfl | (simp; done) | (simp [*]; done)), H', ⟨by have := HK1.out; have := HK2.out; omega⟩, ⟨by (with_reducible repeat (first | apply Kd.R_alloc | apply Kd.R_drewN | apply Kd.R_drew)); exact HO_4.out⟩, ⟨by (with_reducible repeat (first | refine blk_drewN ?_ _ | refine blk_drew ?_ | refine blk_alloc ?_ _)); exact BK117.out⟩, ⟨by repeat (first | (with_reducible first | exact HB.out | apply below_alloc | apply pw_below_drewN | apply below_drew1 | refine below_set ?_ GE117.out) | exact HB.out)⟩⟩
            ·rw [if_neg c78] at H
             exact absurd H (by simp)
           ·rw [if_neg c77] at H
            have c77b0 : decide (x10_2 < (l0.length : Int)) = false := decide_eq_false c77
            clear c77
            have H' := Aside0.mk H
            clear H
            go_wp2
            go_roundg k2
            case measure => have := HK1.out; have := HK2.out; omega
            case rel => exact ⟨(x4_1), (x5_1), (x6_1), (x10_2), (x118000_1), (x118001_1), (x118002_1), (by first | rfl | (simp; done) | (simp [*]; done)), (by first | rfl | (simp; done) | (simp [*]; done)), (by first | rfl | (simp; done) | (simp [*]; done)), H', ⟨by have := HK1.out; have := HK2.out; omega⟩, ⟨by (with_reducible repeat (first | apply Kd.R_alloc | apply Kd.R_drewN | apply Kd.R_drew)); exact HO_4.out⟩, ⟨by (with_reducible repeat (first | refine blk_drewN ?_ _ | refine blk_drew ?_ | refine blk_alloc ?_ _)); exact BK117.out⟩, ⟨by repeat (first | (with_reducible first | exact HB.out | apply below_alloc | apply pw_below_drewN | apply below_drew1 | refine below_set ?_ GE117.out) | exact HB.out)⟩⟩
        ·rw [if_neg c76] at H
         have c76b0 : (t122 == 6) = false := beq_eq_false_iff_ne.mpr c76
         have c76b1 : (t122 != 6) = true := bne_iff_ne.mpr c76
         by_cases c81 : t122 = 4
         ·rw [if_pos c81] at H
          have c81b0 : (t122 == 4) = true := beq_iff_eq.mpr c81
          have c81b1 : (t122 != 4) = false := bne_eq_false_iff_eq.mpr c81
          clear c81
          have H' := Aside0.mk H
          clear H
          have p121 : 0 ≤ (x7_1 : Int) := of_decide_eq_true (by first | (with_reducible assumption) | assumption)
          have q121 : x7_1 < (l0.length : Int) := of_decide_eq_true (by first | (with_reducible assumption) | assumption)
          obtain ⟨ad121, e121, hx121_0⟩ := Kd.at_int HR0.out x7_1 p121 q121
          cases e121
          replace hx121_0 := (HB.out.cell (World.block_lt_of_cell? w _ hx121_0)).trans hx121_0
          replace p121 := eq_true p121
          replace q121 := eq_true q121
          go_wp2_with (first | ((with_reducible refine gate_callee (f := 35) rfl ?_); refine goesL_ (some 25) rfl rfl Tryd.func35 (by kernel_rfl) rfl #[.int .u8 (rd l0 x7_1)] rfl (by (try simp only [List.map_toArray, List.map_cons, List.map_nil]); first | done | rfl | (simp only [List.length_drop, List.length_take]; rfl)) ?_; (with_reducible refine (pendulumref04_kind.calls k1 (rd l0 x7_1) t122 _ A5.out).mono ?_); rintro e w' ⟨rfl, ⟨nd, rfl⟩⟩; refine ⟨_, rfl, ?_⟩))
          go_roundg k1
          case measure => have := HK1.out; omega
          case rel => exact ⟨(x4_1), (x5_1), (x6_1), (wrap64 (x7_1 + 1)), (x118000_1), (x118001_1), (x118002_1), (by first | rfl | (simp; done) | (simp [*]; done)), (by first | rfl | (simp; done) | (simp [*]; done)), (by first | rfl | (simp; done) | (simp [*]; done)), H', ⟨by have := HK1.out; omega⟩, ⟨by (with_reducible repeat (first | apply Kd.R_alloc | apply Kd.R_drewN | apply Kd.R_drew)); exact HO_4.out⟩, ⟨by (with_reducible repeat (first | refine blk_drewN ?_ _ | refine blk_drew ?_ | refine blk_alloc ?_ _)); exact BK117.out⟩, ⟨by repeat (first | (with_reducible first | exact HB.out | apply below_alloc | apply pw_below_drewN | apply below_drew1 | refine below_set ?_ GE117.out) | exact HB.out)⟩⟩
         ·rw [if_neg c81] at H
          have c81b0 : (t122 == 4) = false := beq_eq_false_iff_ne.mpr c81
          have c81b1 : (t122 != 4) = true := bne_iff_ne.mpr c81
          simp only [Option.some.injEq, Prod.mk.injEq] at H
          obtain ⟨rfl, rfl, rfl, rfl⟩ := H
          have p121 : 0 ≤ (x7_1 : Int) := of_decide_eq_true (by first | (with_reducible assumption) | assumption)
          have q121 : x7_1 < (l0.length : Int) := of_decide_eq_true (by first | (with_reducible assumption) | assumption)
          obtain ⟨ad121, e121, hx121_0⟩ := Kd.at_int HR0.out x7_1 p121 q121
          cases e121
          replace hx121_0 := (HB.out.cell (World.block_lt_of_cell? w _ hx121_0)).trans hx121_0
          replace p121 := eq_true p121
          replace q121 := eq_true q121
          go_wp2_with (first | ((with_reducible refine gate_callee (f := 35) rfl ?_); refine goesL_ (some 25) rfl rfl Tryd.func35 (by kernel_rfl) rfl #[.int .u8 (rd l0 x7_1)] rfl (by (try simp only [List.map_toArray, List.map_cons, List.map_nil]); first | done | rfl | (simp only [List.length_drop, List.length_take]; rfl)) ?_; (with_reducible refine (pendulumref04_kind.calls k1 (rd l0 x7_1) t122 _ A5.out).mono ?_); rintro e w' ⟨rfl, ⟨nd, rfl⟩⟩; refine ⟨_, rfl, ?_⟩; (try (rw [drewN_self wr]; generalize hq_ : World.drewN wr _ = wr; have n0_ : Aside0 (Kd.R k46 46 wr w.heap.size (fun _ => True) u4 x4_1) := ⟨by rw [← hq_]; exact (by (with_reducible repeat (first | apply Kd.R_alloc | apply Kd.R_drewN | apply Kd.R_drew)); exact HO_4.out)⟩; have n1_ : Aside0 (wr.heap[gb117]? = some (.cells #[.int .i64 x118000_1, .int .i64 x118001_1, .int .i64 x118002_1] 29 (0, 0))) := ⟨by rw [← hq_]; exact (by (with_reducible repeat (first | refine blk_drewN ?_ _ | refine blk_drew ?_ | refine blk_alloc ?_ _)); exact BK117.out)⟩; have n2_ : Aside0 (Below w.heap.size w wr) := ⟨by rw [← hq_]; exact (by repeat (first | (with_reducible first | exact HB.out | apply below_alloc | apply pw_below_drewN | apply below_drew1 | refine below_set ?_ GE117.out) | exact HB.out))⟩; clear HO_4 BK117 HB hq_; have HO_4 := n0_; have BK117 := n1_; have HB := n2_; clear n0_ n1_ n2_)); have hcz82_0 : wr.cell? ⟨gb117, 0, none⟩ = some (.int .i64 x118000_1) := (blk_cell BK117.out 0).trans rfl; have hcz82_1 : wr.cell? ⟨gb117, 1, none⟩ = some (.int .i64 x118001_1) := (blk_cell BK117.out 1).trans rfl; have hcz82_2 : wr.cell? ⟨gb117, 2, none⟩ = some (.int .i64 x118002_1) := (blk_cell BK117.out 2).trans rfl; have hfz82_0 := blk_frozen BK117.out 0; have hfz82_1 := blk_frozen BK117.out 1; have hfz82_2 := blk_frozen BK117.out 2))
          refine bodyPost_ret (results_tc rfl _ _ gb117 29 #[.int .i64 5, .int .i64 x5_1, .int .i64 (wrap64 ((wrap64 (x7_1 - x6_1)) + 1))] (0, 0) _ rfl (by (with_reducible repeat (first | refine blk_drewN ?_ _ | refine blk_drew ?_ | refine blk_alloc ?_ _)); refine blk_put (cs := #[.int .i64 5, .int .i64 x5_1, .int .i64 x118002_1]) ?_ 2 _ rfl; (with_reducible repeat (first | refine blk_drewN ?_ _ | refine blk_drew ?_ | refine blk_alloc ?_ _)); refine blk_put (cs := #[.int .i64 5, .int .i64 x118001_1, .int .i64 x118002_1]) ?_ 1 _ rfl; (with_reducible repeat (first | refine blk_drewN ?_ _ | refine blk_drew ?_ | refine blk_alloc ?_ _)); refine blk_put (cs := #[.int .i64 x118000_1, .int .i64 x118001_1, .int .i64 x118002_1]) ?_ 0 _ rfl; (with_reducible repeat (first | refine blk_drewN ?_ _ | refine blk_drew ?_ | refine blk_alloc ?_ _)); exact BK117.out) Tryd.underlying29 rfl (by kernel_rfl)) rfl ?_
          exact ⟨_, by first | rfl | (simp [errW_none, errW_some] <;> rfl) | (simp [*, errW_none, errW_some] <;> rfl), by first | exact Kd.R_nil _ _ _ _ _ | exact Kd.N_nil _ _ _ _ _ | exact Kd.V_nil _ _ _ _ _ | exact Kd.Q_nil _ _ _ _ _ | exact Kd.S_nil _ _ _ _ _, by repeat (first | (with_reducible first | exact HB.out | apply below_alloc | apply pw_below_drewN | apply below_drew1 | refine below_set ?_ GE117.out) | exact HB.out)⟩
    ·rw [if_neg c4] at H
     exact absurd H (by simp)
   ·rw [if_neg c3] at H
    have c3b0 : decide (x7_1 < (l0.length : Int)) = false := decide_eq_false c3
    clear c3
    by_cases c83 : x4_1.length < 2932031007402
    ·rw [if_pos c83] at H
     have LMc83 := Aside0.mk c83
     clear c83
     obtain ⟨y118, hy118⟩ : ∃ y_ : List (S46), y_ = (x4_1 ++ [(⟨4, (⟨#[]⟩ : ByteArray), 0, x5_1, wrap64 ((wrap64 ((l0.length : Int) - x6_1)) + 1)⟩ : S46)]) := ⟨_, rfl⟩
     replace H : (some (y118, 0, 0, 0)) = some (r1, r2, r3, r4) := by first | (rw [hy118]; with_reducible exact H) | (have H2_ := (Option.bind_some _ _).symm.trans H; rw [hy118]; with_reducible exact H2_) | (have H2_ := (Option.bind_some _ _).symm.trans H; with_reducible exact H2_) | with_reducible exact H | (rw [hy118]; exact H) | exact H
     have Ny118 := Aside0.mk hy118
     clear hy118
     simp only [Option.some.injEq, Prod.mk.injEq] at H
     obtain ⟨rfl, rfl, rfl, rfl⟩ := H
     go_wp2_with (first | ((with_reducible refine gate_builtin (b := .append) (xs := #[.tmp 138, .tmp 146]) rfl ?_); at_builtin; refine Kd.R_append k46 (w0 := w) w.heap.size rfl (.tmp 138) (.tmp 146) 41 46 (.agg #[(.int .i64 0), (.string ⟨#[]⟩), (.int .i64 0), (.int .i64 0), (.int .i64 0)]) 48 rfl Tryd.underlying41 info46 rfl (by decide) (by omega) u4 x4_1 (⟨4, (⟨#[]⟩ : ByteArray), 0, x5_1, wrap64 ((wrap64 ((l0.length : Int) - x6_1)) + 1)⟩ : S46) [.int .i64 4, .string (⟨#[]⟩ : ByteArray), .int .i64 0, .int .i64 x5_1, .int .i64 (wrap64 ((wrap64 ((l0.length : Int) - x6_1)) + 1))] (fun _ => True) (fun _ => False) rfl rfl ?aP (fun _ hk => hk.elim) ?aF ?aO ?aB ?aS ?aL ?_; (case aP => exact k46_mkM _ _ _ (⟨4, (⟨#[]⟩ : ByteArray), 0, x5_1, wrap64 ((wrap64 ((l0.length : Int) - x6_1)) + 1)⟩ : S46)); (case aB => exact (by repeat (first | (with_reducible first | exact HB.out | apply below_alloc | apply pw_below_drewN | apply below_drew1 | refine below_set ?_ GE117.out) | exact HB.out))); (case aF => exact (fun _ _ => trivial)); (case aO => exact (by (with_reducible repeat (first | apply Kd.R_alloc | apply Kd.R_drewN | apply Kd.R_drew)); exact HO_4.out)); (case aS => exact (below_size (by repeat (first | (with_reducible first | exact HB.out | apply below_alloc | apply pw_below_drewN | apply below_drew1 | refine below_set ?_ GE117.out) | exact HB.out)))); (case aL => have := LMc83.out; omega); intro v119 w84 ho hb hg hat; rw [← Ny118.out] at ho; have n0_ := Aside0.mk (blk_grown (g := gb117) (o := .cells #[.int .i64 x118000_1, .int .i64 x118001_1, .int .i64 x118002_1] 29 (0, 0)) (by (with_reducible repeat (first | refine blk_drewN ?_ _ | refine blk_drew ?_ | refine blk_alloc ?_ _)); exact BK117.out) hg (Kd.R_ne HO_4.out BK117.out (by decide))); have n1_ := Aside0.mk (hb); have n2_ := Aside0.mk (ho); clear BK117; clear HB; clear HO_4; have BK117 := n0_; have HB := n1_; have HO120 := n2_; clear n0_ n1_ n2_; clear ho hb hg hat; have hcz85_0 : w84.cell? ⟨gb117, 0, none⟩ = some (.int .i64 x118000_1) := (blk_cell BK117.out 0).trans rfl; have hcz85_1 : w84.cell? ⟨gb117, 1, none⟩ = some (.int .i64 x118001_1) := (blk_cell BK117.out 1).trans rfl; have hcz85_2 : w84.cell? ⟨gb117, 2, none⟩ = some (.int .i64 x118002_1) := (blk_cell BK117.out 2).trans rfl; have hfz85_0 := blk_frozen BK117.out 0; have hfz85_1 := blk_frozen BK117.out 1; have hfz85_2 := blk_frozen BK117.out 2))
     refine bodyPost_ret (results_tc rfl _ _ gb117 29 #[.int .i64 0, .int .i64 0, .int .i64 0] (0, 0) _ rfl (by (with_reducible repeat (first | refine blk_drewN ?_ _ | refine blk_drew ?_ | refine blk_alloc ?_ _)); refine blk_put (cs := #[.int .i64 0, .int .i64 0, .int .i64 x118002_1]) ?_ 2 _ rfl; (with_reducible repeat (first | refine blk_drewN ?_ _ | refine blk_drew ?_ | refine blk_alloc ?_ _)); refine blk_put (cs := #[.int .i64 0, .int .i64 x118001_1, .int .i64 x118002_1]) ?_ 1 _ rfl; (with_reducible repeat (first | refine blk_drewN ?_ _ | refine blk_drew ?_ | refine blk_alloc ?_ _)); refine blk_put (cs := #[.int .i64 x118000_1, .int .i64 x118001_1, .int .i64 x118002_1]) ?_ 0 _ rfl; (with_reducible repeat (first | refine blk_drewN ?_ _ | refine blk_drew ?_ | refine blk_alloc ?_ _)); exact BK117.out) Tryd.underlying29 rfl (by kernel_rfl)) rfl ?_
     exact ⟨_, by first | rfl | (simp [errW_none, errW_some] <;> rfl) | (simp [*, errW_none, errW_some] <;> rfl), by (with_reducible repeat (first | apply Kd.R_alloc | apply Kd.R_drewN | apply Kd.R_drew)); exact Kd.R_mono (Kd.R_far (p := ⟨gb117, 2, none⟩) (Kd.R_far (p := ⟨gb117, 1, none⟩) (Kd.R_far (p := ⟨gb117, 0, none⟩) (Kd.R_types HO120.out BK117.out (by decide)) (fun _ hk => hk.2) (.int .i64 0)) (fun _ hk => hk.2) (.int .i64 0)) (fun _ hk => hk.2) (.int .i64 0)) (fun _ hk => trivial), by repeat (first | (with_reducible first | exact HB.out | apply below_alloc | apply pw_below_drewN | apply below_drew1 | refine below_set ?_ GE117.out) | exact HB.out)⟩
    ·rw [if_neg c83] at H
     exact absurd H (by simp)

end Go.Proofs.YtddbkcfdfgehkaaDoor.Q
