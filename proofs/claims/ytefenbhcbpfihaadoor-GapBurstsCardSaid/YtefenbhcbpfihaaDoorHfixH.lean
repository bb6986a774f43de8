-- fix.Ahead: walked by hand.
-- HAND pendulum/fix.Ahead rounds=0 making=1
-- NEEDS pendulum/demand.Extra
import Derived.Test.YtefenbhcbpfihaaDoorM0
import Derived.IntWalk
import Derived.WalkSpells
import Derived.BigQuiet
namespace Go.Proofs.YtefenbhcbpfihaaDoor.Q
open Go.RowKit Go.Proofs.YtefenbhcbpfihaaDoorW.PrintWords Go.Proofs.YtefenbhcbpfihaaDoorW.PrintLast Go.Proofs.YtefenbhcbpfihaaDoorW.PrintMore
attribute [local go_sem] max2_int min2_int max_two min_two max_three min_three max_four min_four   -- for this text's walks alone
set_option linter.unusedVariables false
set_option linter.unusedSimpArgs false

def fix_Ahead.f (_b : Int) (ts : List TK) (a : Int) : Option Int := if (∀ t ∈ ts, Dem t) ∧ 0 ≤ a ∧ a < (ts.length : Int) ∧ ts.length ≤ 1000000 then some (aheadL (rd_T39 ts a).f10 ts 0) else none
set_option maxHeartbeats 4000000 in
set_option maxRecDepth 100000 in
theorem ahead_ask (b : Int) (A : Option Addr) (c : Nat) (ts : List TK) (a : Nat) (W : World) (hC : Kd.C k39 W A ts.length ts) (hc : ts.length ≤ c) (hD : ∀ t ∈ ts, Dem t) (ha : a < ts.length) (hl : ts.length ≤ 1000000) :
  Calls Tryd.prog 37 #[.agg #[.int .i64 b, .slice A ts.length c], .int .i64 (a : Int)] W fun e w' => e = .returned (.int .i64 (aheadL (rd_T39 ts (a : Int)).f10 ts 0)) ∧ Below W.heap.size W w' := by
 have HC := Aside0.mk hC
 have HD := Aside0.mk hD
 have HB1 : Aside0 (∀ o, Below W.heap.size W (W.alloc o)) := ⟨fun o => below_alloc (Below.refl _ _) _⟩
 have HK1 : Aside0 ((W.alloc (.cells #[.int .i64 b, .slice A ts.length c] 24 (0, 0))).heap[W.heap.size]? = some (.cells #[.int .i64 b, .slice A ts.length c] 24 (0, 0))) := ⟨blk_new W _⟩
 obtain ⟨gs, hgs⟩ : ∃ gs, W.heap.size = gs := ⟨_, rfl⟩
 rw [hgs] at HK1
 obtain ⟨P, hP⟩ : ∃ P, (rd_T39 ts (a : Int)).f10 = P := ⟨_, rfl⟩
 rw [hP]
 have HP := Aside0.mk hP
 have q0 : (0 : Int) ≤ a := by omega
 have q1 : (a : Int) < (ts.length : Int) := by omega
 clear hC hD hP
 go_enter Tryd.func37, Tryd.ntmps37
 go_wp2_with fail
 go_loopg [5, 11] ts.length (fun kk v5 v11 wr => ∃ (i : Nat) (m : Int), v11 = .int .i64 i ∧ v5 = .int .i64 m ∧ i + kk = ts.length ∧ Aside0 (aheadL P (ts.drop i) m = aheadL P ts 0) ∧ Aside0 (Below W.heap.size W wr) ∧ Aside0 (wr.heap[gs]? = some (.cells #[.int .i64 b, .slice A ts.length c] 24 (0, 0))))
 case atStart => exact ⟨0, 0, rfl, rfl, by omega, ⟨by simp⟩, ⟨HB1.out _⟩, HK1⟩
 case round =>
  clear HB1 HK1
  obtain ⟨i, m, rfl, rfl, hik, HF, HB, HK⟩ := hrel
  by_cases hlt : i < ts.length
  ·have hd : decide ((i : Int) < (ts.length : Int)) = true := by simp; omega
   obtain ⟨ad, e, x0, x1, x2, x3, x4, x5, x6, x7, x8, x9, x10⟩ := at_T39 (Kd.C_below HC.out HB.out) (i : Int) (by omega) (by omega)
   cases e
   simp only [Int.toNat_natCast] at x0 x1 x2 x3 x4 x5 x6 x7 x8 x9 x10
   obtain ⟨t, ht⟩ : ∃ t, rd_T39 ts (i : Int) = t := ⟨_, rfl⟩
   have HTI : Aside0 (ts[i]? = some t) := ⟨by rw [← ht]; simp [rd_T39, List.getD_eq_getElem?_getD, List.getElem?_eq_getElem hlt]⟩
   rw [ht] at x0 x1 x2 x3 x4 x5 x6 x7 x8 x9 x10
   have p0 : (0 : Int) ≤ i := by omega
   have p1 : (i : Int) < (ts.length : Int) := by omega
   clear ht
   go_upto_region 5 with fail
   obtain ⟨gt, hgt⟩ : ∃ gt, wr.heap.size = gt := ⟨_, rfl⟩
   obtain ⟨W2, hW2⟩ : ∃ W2, W2 = wr.alloc (.cells #[.string t.f0, .int .i64 t.f1, .int .i64 t.f2, .int .i64 t.f3, .int .i64 t.f4, .int .i64 t.f5, .int .i64 t.f6, .int .i64 t.f7, .int .i64 t.f8, .int .i64 t.f9, .int .i64 t.f10] 39 (0, 0)) := ⟨_, rfl⟩
   have HB2 : Aside0 (Below W.heap.size W W2) := ⟨by rw [hW2]; exact below_alloc HB.out _⟩
   have HK2 : Aside0 (W2.heap[gs]? = some (.cells #[.int .i64 b, .slice (some ad) ts.length c] 24 (0, 0))) := ⟨by rw [hW2]; exact blk_alloc HK.out _⟩
   have HT2 : Aside0 (W2.heap[gt]? = some (.cells (tkC t) 39 (0, 0))) := ⟨by rw [hW2, ← hgt]; exact blk_new wr _⟩
   rw [← hW2, hgt]
   clear hgt hW2 HB HK x0 x1 x2 x3 x4 x5 x6 x7 x8 x9 x10
   obtain ⟨ad', e, z0, z1, z2, z3, z4, z5, z6, z7, z8, z9, z10⟩ := at_T39 (Kd.C_below HC.out HB2.out) (a : Int) q0 q1
   cases e
   clear z0 z1 z2 z3 z4 z5 z6 z7 z8 z9
   rw [HP.out] at z10
   simp only [Int.toNat_natCast] at z10
   have s1 := blk_cell HK2.out 1
   have y0 : W2.cell? ⟨gt, 0, none⟩ = some (.string t.f0) := blk_cell HT2.out 0
   have y1 : W2.cell? ⟨gt, 1, none⟩ = some (.int .i64 t.f1) := blk_cell HT2.out 1
   have y2 : W2.cell? ⟨gt, 2, none⟩ = some (.int .i64 t.f2) := blk_cell HT2.out 2
   have y3 : W2.cell? ⟨gt, 3, none⟩ = some (.int .i64 t.f3) := blk_cell HT2.out 3
   have y4 : W2.cell? ⟨gt, 4, none⟩ = some (.int .i64 t.f4) := blk_cell HT2.out 4
   have y5 : W2.cell? ⟨gt, 5, none⟩ = some (.int .i64 t.f5) := blk_cell HT2.out 5
   have y6 : W2.cell? ⟨gt, 6, none⟩ = some (.int .i64 t.f6) := blk_cell HT2.out 6
   have y7 : W2.cell? ⟨gt, 7, none⟩ = some (.int .i64 t.f7) := blk_cell HT2.out 7
   have y8 : W2.cell? ⟨gt, 8, none⟩ = some (.int .i64 t.f8) := blk_cell HT2.out 8
   have y9 : W2.cell? ⟨gt, 9, none⟩ = some (.int .i64 t.f9) := blk_cell HT2.out 9
   have y10 : W2.cell? ⟨gt, 10, none⟩ = some (.int .i64 t.f10) := blk_cell HT2.out 10
   have HE := Aside0.mk (extra_eval (HD.out t (List.mem_of_getElem? HTI.out)))
   have HS : Aside0 (aheadL P (ts.drop i) m = aheadL P (ts.drop (i + 1)) (if P ≤ t.f10 ∧ t.f9 = 3 then max m (extraF t) else m)) := ⟨by
    have h := HTI.out
    rw [List.getElem?_eq_getElem hlt] at h
    rw [List.drop_eq_getElem_cons hlt, aheadL, Option.some.inj h]⟩
   have HB2n : Aside0 (∀ n, Below W.heap.size W (W2.drewN n)) := ⟨fun n => pw_below_drewN HB2.out n⟩
   have HK2n : Aside0 (∀ n, (W2.drewN n).heap[gs]? = some (.cells #[.int .i64 b, .slice (some ad) ts.length c] 24 (0, 0))) := ⟨fun n => blk_below HK2.out (pw_below_drewN (Below.refl _ _) n)⟩
   by_cases h1 : P ≤ t.f10
   ·have d1 : decide (P ≤ t.f10) = true := decide_eq_true h1
    have d1' : decide (t.f10 ≥ P) = true := decide_eq_true h1
    by_cases h2 : t.f9 = 3
    ·have d2 : decide (t.f9 = 3) = true := decide_eq_true h2
     have d3 : (t.f9 == 3) = true := by simpa using h2
     have HJ := Aside0.mk (And.intro h1 h2 : P ≤ t.f10 ∧ t.f9 = 3)
     clear h1 h2
     go_wp2_with fail
     go_quiet (fail)
     go_wp2_with fail
     refine (demand_Extra.calls t.f0 t.f1 t.f2 t.f3 t.f4 t.f5 t.f6 t.f7 t.f8 t.f9 t.f10 (extraF t) _ HE.out).mono ?_
     rintro e w' ⟨rfl, hb⟩
     have HB3 := Aside0.mk (below_step (HB2n.out _) hb)
     have HK3 := Aside0.mk (blk_below (HK2n.out _) hb)
     clear hb HB2 HK2 HT2 HB2n HK2n s1 z10 y0 y1 y2 y3 y4 y5 y6 y7 y8 y9 y10
     go_wp2_with fail
     ·go_roundg (ts.length - (i + 1))
      case measure => omega
      case rel => exact ⟨i + 1, extraF t, by first | rfl | simp, by first | rfl | simp, by omega, ⟨by rw [← HF.out, HS.out, if_pos HJ.out, Int.max_eq_right (by omega)]⟩, HB3, HK3⟩
     ·go_roundg (ts.length - (i + 1))
      case measure => omega
      case rel => exact ⟨i + 1, m, by first | rfl | simp, by first | rfl | simp, by omega, ⟨by rw [← HF.out, HS.out, if_pos HJ.out, Int.max_eq_left (by omega)]⟩, HB3, HK3⟩
    ·have d2 : decide (t.f9 = 3) = false := decide_eq_false h2
     have d3 : (t.f9 == 3) = false := by simpa using h2
     have HJ := Aside0.mk (fun h => h2 h.2 : ¬ (P ≤ t.f10 ∧ t.f9 = 3))
     clear h1 h2
     go_wp2_with fail
     go_quiet (fail)
     go_wp2_with fail
     go_roundg (ts.length - (i + 1))
     case measure => omega
     case rel => exact ⟨i + 1, m, by first | rfl | simp, by first | rfl | simp, by omega, ⟨by rw [← HF.out, HS.out, if_neg HJ.out]⟩, ⟨HB2n.out _⟩, ⟨HK2n.out _⟩⟩
   ·have d1 : decide (P ≤ t.f10) = false := decide_eq_false h1
    have d1' : decide (t.f10 ≥ P) = false := decide_eq_false h1
    have HJ := Aside0.mk (fun h => h1 h.1 : ¬ (P ≤ t.f10 ∧ t.f9 = 3))
    clear h1
    go_wp2_with fail
    go_quiet (fail)
    go_wp2_with fail
    go_roundg (ts.length - (i + 1))
    case measure => omega
    case rel => exact ⟨i + 1, m, by first | rfl | simp, by first | rfl | simp, by omega, ⟨by rw [← HF.out, HS.out, if_neg HJ.out]⟩, ⟨HB2n.out _⟩, ⟨HK2n.out _⟩⟩
  ·have hd : decide ((i : Int) < (ts.length : Int)) = false := by simp; omega
   go_wp2_with fail
   go_ret
   have hm : aheadL P ts 0 = m := by rw [← HF.out, List.drop_of_length_le (by omega), aheadL]
   exact ⟨by rw [hm]; rfl, HB.out⟩
theorem fix_Ahead.calls (a0_0 : Int) (A0_1 : Option Addr) (c0_1 : Nat) (l0_1 : List TK) (a1 : Int) (r : Int) (w : World) (hr0_1 : Kd.C k39 w A0_1 l0_1.length l0_1) (hc0_1 : l0_1.length ≤ c0_1) (h : fix_Ahead.f a0_0 l0_1 a1 = some r) :
  Calls Tryd.prog 37 #[.agg #[.int .i64 a0_0, .slice A0_1 l0_1.length c0_1], .int .i64 a1] w fun e w' => e = .returned (.int .i64 r) ∧ Below w.heap.size w w' := by
 unfold fix_Ahead.f at h
 split at h
 ·rename_i hh
  obtain ⟨h1, h2, h3, h4⟩ := hh
  obtain ⟨a, rfl⟩ : ∃ a : Nat, a1 = (a : Int) := ⟨a1.toNat, by omega⟩
  have e := Option.some.inj h
  rw [← e]
  exact ahead_ask a0_0 A0_1 c0_1 l0_1 a w hr0_1 hc0_1 h1 (by omega) h4
 ·cases h
end Go.Proofs.YtefenbhcbpfihaaDoor.Q
