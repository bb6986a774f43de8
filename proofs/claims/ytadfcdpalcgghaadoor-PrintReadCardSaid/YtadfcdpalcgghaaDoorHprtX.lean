-- PrintRead, PrintBack: walked by hand (their texts' bytes are a string's: the printer takes no such conversion).
-- HAND pendulum/pendulumlaw07.PrintRead rounds=0 making=1
-- HAND pendulum/pendulumlaw07.PrintBack rounds=0 making=1
-- NEEDS pendulum/pendulumlaw07.awake pendulum/pendulumref05.Same pendulum/pendulumref05.Few pendulum/pendulumref05.Right pendulum/pendulumref07.Set pendulum/parse.Set pendulum/print.Set
import Derived.Test.YtadfcdpalcgghaaDoorM0
import Derived.Test.YtadfcdpalcgghaaDoorHparsF
import Derived.Test.YtadfcdpalcgghaaDoorHparsG
import Derived.Test.YtadfcdpalcgghaaDoorHprtC
import Derived.Test.YtadfcdpalcgghaaDoorLprtB
import Derived.Test.YtadfcdpalcgghaaDoorHprtK
import Derived.Test.YtadfcdpalcgghaaDoorM14
import Derived.OpenShut
import Derived.WalkSpells
import Derived.IntWalk
import Derived.Lib.SlBytesConst
namespace Go.Proofs.YtadfcdpalcgghaaDoor.Q
open Go.RowKit Go.Proofs.YtadfcdpalcgghaaDoorW.PrintWords Go.Proofs.YtadfcdpalcgghaaDoorW.PrintLast Go.Proofs.YtadfcdpalcgghaaDoorW.PrintMore
attribute [local go_sem] max2_int min2_int max_two min_two max_three min_three max_four min_four   -- for this text's walks alone
set_option linter.unusedVariables false
set_option linter.unusedSimpArgs false
def pendulumlaw07_PrintRead.f : Option Bool := some true
def pendulumlaw07_PrintBack.f : Option Bool := some true
section
open Go.ChangeShapes Go.WideShapes Go.Deep
theorem op_sl_uint8 {H : Type} {enc : TypeId × Value → H} {base : Nat} {spare : Nat → Bool} {held : Bool} {w : World} {fuel : Nat} {cs : List Value} {x : DataW H × List MemPlace} (h : DataW.trod enc Tryd.prog w base spare held fuel 41 cs = some x) : ∃ (A : Option Addr) (c : Nat) (l : List Int), cs = [.slice A l.length c] ∧ Kd.C (Kd.int .u8) w A l.length l ∧ l.length ≤ c ∧ (∀ a ∈ l, (Lit.int .u8 a).wf = true) ∧ c ≤ maxLen :=
 op_slice (Kd.int .u8) (fun x => (Lit.int .u8 x).wf = true) Tryd.underlying41 (by kernel_rfl) (fun h => by
  obtain ⟨v, e, -, hw⟩ := DataW.trod_int Tryd.underlying5 h
  exact ⟨v, e, hw⟩) h
end
theorem blk_cellP {w : World} {g : Nat} {t : TypeId} {cs : Array Value} {fr : Nat × Nat} (h : w.heap[g]? = some (.cells cs t fr)) (j : Nat) (v : Value) (hv : cs[j]? = some v) : w.cell? ⟨g, j, none⟩ = some v := (cell_of_row w g j cs t fr h).trans hv
set_option maxHeartbeats 4000000 in
set_option maxRecDepth 100000 in
theorem read_far (A : Option Addr) (c : Nat) (l : List Int) (W : World) (h : 3000 < l.length) (htab : TabS W.heap.size W) :
  Calls Tryd.prog 6 #[.slice A l.length c] W fun e w' => e = .returned (.bool true) ∧ Below W.heap.size W w' := by
 have HB := Aside0.mk (Below.refl W.heap.size W)
 have HT := Aside0.mk htab
 have d1 : decide ((3000 : Int) < (l.length : Int)) = true := by simp; omega
 clear h htab
 go_enter Tryd.func6, Tryd.ntmps6
 go_wp2_with fail
 refine (pendulumlaw07_awake.calls true _ rfl HT.out).mono ?_
 rintro e wA ⟨rfl, hb⟩
 have HB1 := Aside0.mk (below_step HB.out hb)
 clear HB hb
 go_wp2_with fail
 refine (pendulumlaw07_awake.calls true _ rfl (HT.out.step HB1.out)).mono ?_
 rintro e wB ⟨rfl, hb⟩
 have HB2 := Aside0.mk (below_step HB1.out hb)
 clear HB1 hb
 go_wp2_with fail
 go_ret
 exact ⟨rfl, HB2.out⟩
set_option maxHeartbeats 8000000 in
set_option maxRecDepth 100000 in
theorem read_near (A : Option Addr) (c : Nat) (l : List Int) (W : World) (hC : Kd.C (Kd.int .u8) W A l.length l) (hc : l.length ≤ c) (hok : okBytes l = true) (hl : l.length ≤ 3000) (htab : TabS W.heap.size W) :
  Calls Tryd.prog 6 #[.slice A l.length c] W fun e w' => e = .returned (.bool true) ∧ Below W.heap.size W w' := by
 have HB := Aside0.mk (Below.refl W.heap.size W)
 have HT := Aside0.mk htab
 have HC := Aside0.mk hC
 have d1 : decide ((3000 : Int) < (l.length : Int)) = false := by simp; omega
 obtain ⟨b, ts, e, ln, cl, hF⟩ : ∃ b ts e ln cl, parseF l = (b, ts, e, ln, cl) := ⟨_, _, _, _, _, rfl⟩
 have HF : Aside0 (parse_Set.f l = some (b, ts, e, ln, cl)) := ⟨by unfold parse_Set.f; rw [if_pos ⟨hok, by omega⟩, hF]⟩
 have hri := parse_right7 l
 rw [hF] at hri
 have HRI : Aside0 (e = 0 → (whyS b ts).1 = 0) := ⟨hri⟩
 clear hC hok hF hri htab hl
 by_cases he : e = 0
 ·obtain ⟨x, hx1, hx2, hx3, hx4, hx5⟩ := text_all b ts (HRI.out he)
  subst he
  have X1 := Aside0.mk hx1
  have X2 := Aside0.mk hx2
  have X3 := Aside0.mk hx3
  have X4 : Aside0 (x.size ≤ 9223372036854775807) := ⟨by omega⟩
  have X5 := Aside0.mk hx5
  clear hx1 hx2 hx3 hx4 hx5 HRI
  go_enter Tryd.func6, Tryd.ntmps6
  go_wp2_with fail
  refine (pendulumlaw07_awake.calls true _ rfl HT.out).mono ?_
  rintro e wA ⟨rfl, hb⟩
  have HB1 := Aside0.mk (below_step HB.out hb)
  clear HB hb
  go_wp2_with fail
  refine (parse_Set.calls A c l b ts 0 ln cl _ (Kd.C_below HC.out HB1.out) hc HF.out).mono ?_
  rintro e wB ⟨v0, rfl, hR, hb⟩
  obtain ⟨As, cs, rfl, hcs, hCs⟩ := Kd.R_reads hR
  have HS := Aside0.mk hCs
  have HCS := Aside0.mk hcs
  have HB2 := Aside0.mk (below_step HB1.out hb)
  clear HB1 hb hR hCs hcs
  obtain ⟨W1, hW1⟩ : ∃ W1, W1 = (wB.alloc (.cells #[.int .i64 b, .slice As ts.length cs] 24 (0, 0))).alloc (.cells #[.int .i64 0, .int .i64 ln, .int .i64 cl] 38 (0, 0)) := ⟨_, rfl⟩
  have HG0 : Aside0 (W1.heap[wB.heap.size]? = some (.cells #[.int .i64 b, .slice As ts.length cs] 24 (0, 0))) := ⟨by rw [hW1]; exact blk_alloc (blk_new wB _) _⟩
  have HBW : Aside0 (Below W.heap.size W W1) := ⟨by rw [hW1]; exact below_alloc (below_alloc HB2.out _) _⟩
  have HSW : Aside0 (Kd.C k26 W1 As ts.length ts) := ⟨Kd.C_below HS.out (by rw [hW1]; exact below_alloc (below_alloc (Below.refl _ _) _) _)⟩
  have HW1 := Aside0.mk hW1
  obtain ⟨gb, hgb⟩ : ∃ gb, wB.heap.size = gb := ⟨_, rfl⟩
  rw [hgb] at HG0
  have HGB := Aside0.mk hgb
  clear hW1 HB2 HS hgb
  go_wp2_with fail
  rw [← HW1.out]
  refine (print_Set.calls b As cs ts x 0 W1 HSW.out HCS.out X1.out (HT.out.step HBW.out)).mono ?_
  rintro e w2 ⟨rfl, hb⟩
  have HB3 := Aside0.mk (below_step HBW.out hb)
  have HS3 := Aside0.mk (Kd.C_below HSW.out hb)
  have HG3 := Aside0.mk (blk_below HG0.out hb)
  clear hb HBW HSW HG0
  try rw [HGB.out]
  clear HW1 HGB
  go_wp2_with ((with_reducible refine gate_ (.convert 9 41 (.tmp 31)) rfl ?_); go_must (refine conv_event rfl rfl rfl X4.out ?_; intro Ax cx w3 hC3 hc3 hb3))
  have HC3 := Aside0.mk hC3
  have HCC3 := Aside0.mk hc3
  have HB4 := Aside0.mk (below_step HB3.out hb3)
  have HS4 := Aside0.mk (Kd.C_below HS3.out hb3)
  have HG4 := Aside0.mk (blk_below HG3.out hb3)
  clear hC3 hc3 hb3 HB3 HS3 HG3
  refine (parse_Set.calls (some Ax) cx (bytesOf x) b ts 0 0 0 w3 HC3.out HCC3.out X3.out).mono ?_
  rintro e wC ⟨v1, rfl, hR, hb⟩
  obtain ⟨Av, cv, rfl, hcv, hCv⟩ := Kd.R_reads hR
  obtain ⟨wD, hwD⟩ : ∃ wD, wD = (wC.alloc (.cells #[.int .i64 b, .slice Av ts.length cv] 24 (0, 0))).alloc (.cells #[.int .i64 0, .int .i64 0, .int .i64 0] 38 (0, 0)) := ⟨_, rfl⟩
  have hbD : Below w3.heap.size w3 wD := by rw [hwD]; exact below_alloc (below_alloc hb _) _
  have HBD := Aside0.mk (below_step HB4.out hbD)
  have HGD := Aside0.mk (blk_below HG4.out hbD)
  have HSD := Aside0.mk (Kd.C_below HS4.out hbD)
  have HVD : Aside0 (Kd.C k26 wD Av ts.length ts) := ⟨Kd.C_below hCv (by rw [hwD]; exact below_alloc (below_alloc (Below.refl _ _) _) _)⟩
  have HCV := Aside0.mk hcv
  have g0 : wD.cell? ⟨gb, 0, none⟩ = some (.int .i64 b) := blk_cellP HGD.out 0 _ rfl
  have g1 : wD.cell? ⟨gb, 1, none⟩ = some (.slice As ts.length cs) := blk_cellP HGD.out 1 _ rfl
  rw [hwD] at g0 g1
  have HWD := Aside0.mk hwD
  clear hR hb hCv hcv hbD hwD HB4 HS4 HG4
  go_wp2_with fail
  rw [← HWD.out]
  refine (pendulumref05_Same.calls 100 b As cs ts b Av cv ts true _ HSD.out HCS.out HVD.out HCV.out (by rw [same_eq _ _ _ _ (by have := X5.out; omega) (by have := X5.out; omega) 100 (by have := X5.out; omega), sameB_self])).mono ?_
  rintro e wE ⟨rfl, hb⟩
  have HBE := Aside0.mk (below_step HBD.out hb)
  have HSE := Aside0.mk (Kd.C_below HSD.out hb)
  have g0 : wE.cell? ⟨gb, 0, none⟩ = some (.int .i64 b) := blk_cellP (blk_below HGD.out hb) 0 _ rfl
  have g1 : wE.cell? ⟨gb, 1, none⟩ = some (.slice As ts.length cs) := blk_cellP (blk_below HGD.out hb) 1 _ rfl
  clear hb HBD HSD HVD HGD
  go_wp2_with fail
  refine (pendulumref07_Set.calls 300 b As cs ts x _ HSE.out HCS.out X2.out).mono ?_
  rintro e wF ⟨rfl, hb⟩
  have HBF := Aside0.mk (below_step HBE.out hb)
  clear hb
  go_wp2_with fail
  go_ret
  exact ⟨by first | rfl | simp, HBF.out⟩
 ·have b0 : (e == 0) = false := beq_eq_false_iff_ne.2 he
  have b1 : (e != 0) = true := bne_iff_ne.2 he
  clear he HRI
  go_enter Tryd.func6, Tryd.ntmps6
  go_wp2_with fail
  refine (pendulumlaw07_awake.calls true _ rfl HT.out).mono ?_
  rintro e wA ⟨rfl, hb⟩
  have HB1 := Aside0.mk (below_step HB.out hb)
  clear HB hb
  go_wp2_with fail
  refine (parse_Set.calls A c l b ts _ ln cl _ (Kd.C_below HC.out HB1.out) hc HF.out).mono ?_
  rintro e wB ⟨v0, rfl, hR, hb⟩
  obtain ⟨As, cs, rfl, hcs, hCs⟩ := Kd.R_reads hR
  have HB2 := Aside0.mk (below_step HB1.out hb)
  clear HB1 hb hR hCs hcs
  go_wp2_with fail
  go_ret
  exact ⟨rfl, below_alloc (below_alloc HB2.out _) _⟩
theorem PrintRead_law (A : Option Addr) (c : Nat) (l : List Int) (W : World) (hC : Kd.C (Kd.int .u8) W A l.length l) (hc : l.length ≤ c) (hok : ∀ x ∈ l, (Lit.int .u8 x).wf = true) (htab : TabS W.heap.size W) :
  Calls Tryd.prog 6 #[.slice A l.length c] W fun e w' => e = .returned (.bool true) ∧ Below W.heap.size W w' := by
 by_cases h : 3000 < l.length
 ·exact read_far A c l W h htab
 ·exact read_near A c l W hC hc (by
   exact ok_of_wf hok) (by omega) htab
theorem print_any2 (b : Int) (ts : List TK) (hb : intI b) (ht : ∀ t ∈ ts, intT t) (hf : fewB ts = true) : ∃ x e, print_Set.f b ts = some (x, e) ∧ (e = 0 → (whyS b ts).1 = 0 ∧ print_Set.f b ts = some (x, 0)) := by
 by_cases hr : (whyS b ts).1 = 0
 ·obtain ⟨x, h1, -⟩ := text_all b ts hr
  exact ⟨x, 0, h1, fun _ => ⟨hr, h1⟩⟩
 ·exact ⟨_, 1, print_set_wrong b ts hr, fun h => absurd h (by decide)⟩
theorem print_any (b : Int) (ts : List TK) (hb : intI b) (ht : ∀ t ∈ ts, intT t) (hf : fewB ts = true) : ∃ x e, print_Set.f b ts = some (x, e) := by
 obtain ⟨x, e, h, -⟩ := print_any2 b ts hb ht hf
 exact ⟨x, e, h⟩
set_option maxHeartbeats 8000000 in
set_option maxRecDepth 100000 in
theorem back_far (b0 : Int) (A0 : Option Addr) (c0 : Nat) (ts0 : List TK) (b1 : Int) (A1 : Option Addr) (c1 : Nat) (ts1 : List TK) (W : World) (hC0 : Kd.C k26 W A0 ts0.length ts0) (hc0 : ts0.length ≤ c0) (hC1 : Kd.C k26 W A1 ts1.length ts1) (hc1 : ts1.length ≤ c1) (htab : TabS W.heap.size W) (h : fewB ts0 = false) :
  Calls Tryd.prog 5 #[.agg #[.int .i64 b0, .slice A0 ts0.length c0], .agg #[.int .i64 b1, .slice A1 ts1.length c1]] W fun e w' => e = .returned (.bool true) ∧ Below W.heap.size W w' := by
 have HC0 := Aside0.mk hC0
 have HC1 := Aside0.mk hC1
 have HT := Aside0.mk htab
 have HB : Aside0 (Below W.heap.size W ((W.alloc (.cells #[.int .i64 b0, .slice A0 ts0.length c0] 24 (0, 0))).alloc (.cells #[.int .i64 b1, .slice A1 ts1.length c1] 24 (0, 0)))) := ⟨below_alloc (below_alloc (Below.refl _ _) _) _⟩
 obtain ⟨W1, hW1⟩ : ∃ W1, W1 = (W.alloc (.cells #[.int .i64 b0, .slice A0 ts0.length c0] 24 (0, 0))).alloc (.cells #[.int .i64 b1, .slice A1 ts1.length c1] 24 (0, 0)) := ⟨_, rfl⟩
 have HW1 := Aside0.mk hW1
 rw [← hW1] at HB
 have HG0 : Aside0 (W1.heap[W.heap.size]? = some (.cells #[.int .i64 b0, .slice A0 ts0.length c0] 24 (0, 0))) := ⟨by rw [hW1]; exact blk_alloc (blk_new W _) _⟩
 have HG1 : Aside0 (W1.heap[W.heap.size + 1]? = some (.cells #[.int .i64 b1, .slice A1 ts1.length c1] 24 (0, 0))) := ⟨by
  rw [hW1]
  have h := blk_new (W.alloc (.cells #[.int .i64 b0, .slice A0 ts0.length c0] 24 (0, 0))) (.cells #[.int .i64 b1, .slice A1 ts1.length c1] 24 (0, 0))
  simpa using h⟩
 clear hC0 hC1 htab hW1
 have H0 := Aside0.mk h
 clear h
 go_enter Tryd.func5, Tryd.ntmps5
 go_wp2_with fail
 rw [← HW1.out]
 obtain ⟨g0, hg0⟩ : ∃ g0, W.heap.size = g0 := ⟨_, rfl⟩
 try rw [hg0]
 rw [hg0] at HG0 HG1
 have HGW := Aside0.mk hg0
 clear hg0 HW1
 refine (pendulumlaw07_awake.calls true _ rfl (HT.out.step HB.out)).mono ?_
 rintro e wA ⟨rfl, hb⟩
 have HB1 := Aside0.mk (below_step HB.out hb)
 have HC01 := Aside0.mk (Kd.C_below HC0.out HB1.out)
 have HC11 := Aside0.mk (Kd.C_below HC1.out HB1.out)
 have HG01 := Aside0.mk (blk_below HG0.out hb)
 have HG11 := Aside0.mk (blk_below HG1.out hb)
 clear hb HB HG0 HG1
 have q0 : wA.cell? ⟨g0, 0, none⟩ = some (.int .i64 b0) := blk_cellP HG01.out 0 _ rfl
 have q1 : wA.cell? ⟨g0, 1, none⟩ = some (.slice A0 ts0.length c0) := blk_cellP HG01.out 1 _ rfl
 go_wp2_with fail
 refine (pendulumref05_Few.calls 100 b0 A0 c0 ts0 false _ HC01.out hc0 (by rw [few_eq b0 ts0 100 (by decide), H0.out])).mono ?_
 rintro e wB ⟨rfl, hb⟩
 have HB2 := Aside0.mk (below_step HB1.out hb)
 have HG02 := Aside0.mk (blk_below HG01.out hb)
 have HG12 := Aside0.mk (blk_below HG11.out hb)
 clear hb HB1 q0 q1 HG01 HG11 HC01 HC11
 go_wp2_with fail
 refine (pendulumlaw07_awake.calls true _ rfl (HT.out.step HB2.out)).mono ?_
 rintro e wZ ⟨rfl, hb⟩
 have HBZ := Aside0.mk (below_step HB2.out hb)
 clear hb
 go_wp2_with fail
 go_ret
 exact ⟨rfl, HBZ.out⟩
set_option maxHeartbeats 8000000 in
set_option maxRecDepth 100000 in
theorem back_far2 (b0 : Int) (A0 : Option Addr) (c0 : Nat) (ts0 : List TK) (b1 : Int) (A1 : Option Addr) (c1 : Nat) (ts1 : List TK) (W : World) (hC0 : Kd.C k26 W A0 ts0.length ts0) (hc0 : ts0.length ≤ c0) (hC1 : Kd.C k26 W A1 ts1.length ts1) (hc1 : ts1.length ≤ c1) (htab : TabS W.heap.size W) (h0 : fewB ts0 = true) (h1 : fewB ts1 = false) :
  Calls Tryd.prog 5 #[.agg #[.int .i64 b0, .slice A0 ts0.length c0], .agg #[.int .i64 b1, .slice A1 ts1.length c1]] W fun e w' => e = .returned (.bool true) ∧ Below W.heap.size W w' := by
 have HC0 := Aside0.mk hC0
 have HC1 := Aside0.mk hC1
 have HT := Aside0.mk htab
 have HB : Aside0 (Below W.heap.size W ((W.alloc (.cells #[.int .i64 b0, .slice A0 ts0.length c0] 24 (0, 0))).alloc (.cells #[.int .i64 b1, .slice A1 ts1.length c1] 24 (0, 0)))) := ⟨below_alloc (below_alloc (Below.refl _ _) _) _⟩
 obtain ⟨W1, hW1⟩ : ∃ W1, W1 = (W.alloc (.cells #[.int .i64 b0, .slice A0 ts0.length c0] 24 (0, 0))).alloc (.cells #[.int .i64 b1, .slice A1 ts1.length c1] 24 (0, 0)) := ⟨_, rfl⟩
 have HW1 := Aside0.mk hW1
 rw [← hW1] at HB
 have HG0 : Aside0 (W1.heap[W.heap.size]? = some (.cells #[.int .i64 b0, .slice A0 ts0.length c0] 24 (0, 0))) := ⟨by rw [hW1]; exact blk_alloc (blk_new W _) _⟩
 have HG1 : Aside0 (W1.heap[W.heap.size + 1]? = some (.cells #[.int .i64 b1, .slice A1 ts1.length c1] 24 (0, 0))) := ⟨by
  rw [hW1]
  have h := blk_new (W.alloc (.cells #[.int .i64 b0, .slice A0 ts0.length c0] 24 (0, 0))) (.cells #[.int .i64 b1, .slice A1 ts1.length c1] 24 (0, 0))
  simpa using h⟩
 clear hC0 hC1 htab hW1
 have H0 := Aside0.mk h0
 have H1 := Aside0.mk h1
 clear h0 h1
 go_enter Tryd.func5, Tryd.ntmps5
 go_wp2_with fail
 rw [← HW1.out]
 obtain ⟨g0, hg0⟩ : ∃ g0, W.heap.size = g0 := ⟨_, rfl⟩
 try rw [hg0]
 rw [hg0] at HG0 HG1
 have HGW := Aside0.mk hg0
 clear hg0 HW1
 refine (pendulumlaw07_awake.calls true _ rfl (HT.out.step HB.out)).mono ?_
 rintro e wA ⟨rfl, hb⟩
 have HB1 := Aside0.mk (below_step HB.out hb)
 have HC01 := Aside0.mk (Kd.C_below HC0.out HB1.out)
 have HC11 := Aside0.mk (Kd.C_below HC1.out HB1.out)
 have HG01 := Aside0.mk (blk_below HG0.out hb)
 have HG11 := Aside0.mk (blk_below HG1.out hb)
 clear hb HB HG0 HG1
 have q0 : wA.cell? ⟨g0, 0, none⟩ = some (.int .i64 b0) := blk_cellP HG01.out 0 _ rfl
 have q1 : wA.cell? ⟨g0, 1, none⟩ = some (.slice A0 ts0.length c0) := blk_cellP HG01.out 1 _ rfl
 go_wp2_with fail
 refine (pendulumref05_Few.calls 100 b0 A0 c0 ts0 true _ HC01.out hc0 (by rw [few_eq b0 ts0 100 (by decide), H0.out])).mono ?_
 rintro e wB ⟨rfl, hb⟩
 have HB2 := Aside0.mk (below_step HB1.out hb)
 have HG02 := Aside0.mk (blk_below HG01.out hb)
 have HG12 := Aside0.mk (blk_below HG11.out hb)
 clear hb HB1 q0 q1 HG01 HG11 HC01 HC11
 have q0 : wB.cell? ⟨g0 + 1, 0, none⟩ = some (.int .i64 b1) := blk_cellP HG12.out 0 _ rfl
 have q1 : wB.cell? ⟨g0 + 1, 1, none⟩ = some (.slice A1 ts1.length c1) := blk_cellP HG12.out 1 _ rfl
 go_wp2_with fail
 refine (pendulumref05_Few.calls 100 b1 A1 c1 ts1 false _ (Kd.C_below HC1.out HB2.out) hc1 (by rw [few_eq b1 ts1 100 (by decide), H1.out])).mono ?_
 rintro e wC ⟨rfl, hb⟩
 have HB3 := Aside0.mk (below_step HB2.out hb)
 have HG03 := Aside0.mk (blk_below HG02.out hb)
 have HG13 := Aside0.mk (blk_below HG12.out hb)
 clear hb HB2 q0 q1 HG02 HG12
 go_wp2_with fail
 refine (pendulumlaw07_awake.calls true _ rfl (HT.out.step HB3.out)).mono ?_
 rintro e wZ ⟨rfl, hb⟩
 have HBZ := Aside0.mk (below_step HB3.out hb)
 clear hb
 go_wp2_with fail
 go_ret
 exact ⟨rfl, HBZ.out⟩
set_option maxHeartbeats 8000000 in
set_option maxRecDepth 100000 in
theorem back_wrong (b0 : Int) (A0 : Option Addr) (c0 : Nat) (ts0 : List TK) (b1 : Int) (A1 : Option Addr) (c1 : Nat) (ts1 : List TK) (W : World) (hC0 : Kd.C k26 W A0 ts0.length ts0) (hc0 : ts0.length ≤ c0) (hC1 : Kd.C k26 W A1 ts1.length ts1) (hc1 : ts1.length ≤ c1) (htab : TabS W.heap.size W) (h0 : fewB ts0 = true) (h1 : fewB ts1 = true) (hr : ¬ (whyS b0 ts0).1 = 0) (TB : Aside0 (intI b1 ∧ ∀ t ∈ ts1, intT t)) :
  Calls Tryd.prog 5 #[.agg #[.int .i64 b0, .slice A0 ts0.length c0], .agg #[.int .i64 b1, .slice A1 ts1.length c1]] W fun e w' => e = .returned (.bool true) ∧ Below W.heap.size W w' := by
 have HC0 := Aside0.mk hC0
 have HC1 := Aside0.mk hC1
 have HT := Aside0.mk htab
 have HB : Aside0 (Below W.heap.size W ((W.alloc (.cells #[.int .i64 b0, .slice A0 ts0.length c0] 24 (0, 0))).alloc (.cells #[.int .i64 b1, .slice A1 ts1.length c1] 24 (0, 0)))) := ⟨below_alloc (below_alloc (Below.refl _ _) _) _⟩
 obtain ⟨W1, hW1⟩ : ∃ W1, W1 = (W.alloc (.cells #[.int .i64 b0, .slice A0 ts0.length c0] 24 (0, 0))).alloc (.cells #[.int .i64 b1, .slice A1 ts1.length c1] 24 (0, 0)) := ⟨_, rfl⟩
 have HW1 := Aside0.mk hW1
 rw [← hW1] at HB
 have HG0 : Aside0 (W1.heap[W.heap.size]? = some (.cells #[.int .i64 b0, .slice A0 ts0.length c0] 24 (0, 0))) := ⟨by rw [hW1]; exact blk_alloc (blk_new W _) _⟩
 have HG1 : Aside0 (W1.heap[W.heap.size + 1]? = some (.cells #[.int .i64 b1, .slice A1 ts1.length c1] 24 (0, 0))) := ⟨by
  rw [hW1]
  have h := blk_new (W.alloc (.cells #[.int .i64 b0, .slice A0 ts0.length c0] 24 (0, 0))) (.cells #[.int .i64 b1, .slice A1 ts1.length c1] 24 (0, 0))
  simpa using h⟩
 clear hC0 hC1 htab hW1
 have H0 := Aside0.mk h0
 have H1 := Aside0.mk h1
 obtain ⟨x, hx⟩ : ∃ x, (⟨#[]⟩ : ByteArray) = x := ⟨_, rfl⟩
 have X1 : Aside0 (print_Set.f b0 ts0 = some (x, 1)) := ⟨by rw [print_set_wrong b0 ts0 hr, hx]⟩
 have HRR : Aside0 (pendulumref05_Right.f b0 ts0 = some false) := ⟨by rw [right_eq, beq_eq_false_iff_ne.2 hr]⟩
 obtain ⟨y, e1, hy⟩ := print_any b1 ts1 TB.out.1 TB.out.2 h1
 have Y1 := Aside0.mk hy
 clear h0 h1 hr hx hy TB
 go_enter Tryd.func5, Tryd.ntmps5
 go_wp2_with fail
 rw [← HW1.out]
 obtain ⟨g0, hg0⟩ : ∃ g0, W.heap.size = g0 := ⟨_, rfl⟩
 try rw [hg0]
 rw [hg0] at HG0 HG1
 have HGW := Aside0.mk hg0
 clear hg0 HW1
 refine (pendulumlaw07_awake.calls true _ rfl (HT.out.step HB.out)).mono ?_
 rintro e wA ⟨rfl, hb⟩
 have HB1 := Aside0.mk (below_step HB.out hb)
 have HC01 := Aside0.mk (Kd.C_below HC0.out HB1.out)
 have HC11 := Aside0.mk (Kd.C_below HC1.out HB1.out)
 have HG01 := Aside0.mk (blk_below HG0.out hb)
 have HG11 := Aside0.mk (blk_below HG1.out hb)
 clear hb HB HG0 HG1
 have q0 : wA.cell? ⟨g0, 0, none⟩ = some (.int .i64 b0) := blk_cellP HG01.out 0 _ rfl
 have q1 : wA.cell? ⟨g0, 1, none⟩ = some (.slice A0 ts0.length c0) := blk_cellP HG01.out 1 _ rfl
 go_wp2_with fail
 refine (pendulumref05_Few.calls 100 b0 A0 c0 ts0 true _ HC01.out hc0 (by rw [few_eq b0 ts0 100 (by decide), H0.out])).mono ?_
 rintro e wB ⟨rfl, hb⟩
 have HB2 := Aside0.mk (below_step HB1.out hb)
 have HG02 := Aside0.mk (blk_below HG01.out hb)
 have HG12 := Aside0.mk (blk_below HG11.out hb)
 clear hb HB1 q0 q1 HG01 HG11 HC01 HC11
 have q0 : wB.cell? ⟨g0 + 1, 0, none⟩ = some (.int .i64 b1) := blk_cellP HG12.out 0 _ rfl
 have q1 : wB.cell? ⟨g0 + 1, 1, none⟩ = some (.slice A1 ts1.length c1) := blk_cellP HG12.out 1 _ rfl
 go_wp2_with fail
 refine (pendulumref05_Few.calls 100 b1 A1 c1 ts1 true _ (Kd.C_below HC1.out HB2.out) hc1 (by rw [few_eq b1 ts1 100 (by decide), H1.out])).mono ?_
 rintro e wC ⟨rfl, hb⟩
 have HB3 := Aside0.mk (below_step HB2.out hb)
 have HG03 := Aside0.mk (blk_below HG02.out hb)
 have HG13 := Aside0.mk (blk_below HG12.out hb)
 clear hb HB2 q0 q1 HG02 HG12
 have q0 : wC.cell? ⟨g0, 0, none⟩ = some (.int .i64 b0) := blk_cellP HG03.out 0 _ rfl
 have q1 : wC.cell? ⟨g0, 1, none⟩ = some (.slice A0 ts0.length c0) := blk_cellP HG03.out 1 _ rfl
 go_wp2_with fail
 refine (print_Set.calls b0 A0 c0 ts0 x 1 wC (Kd.C_below HC0.out HB3.out) hc0 X1.out (HT.out.step HB3.out)).mono ?_
 rintro e wD ⟨rfl, hb⟩
 have HB4 := Aside0.mk (below_step HB3.out hb)
 have HG04 := Aside0.mk (blk_below HG03.out hb)
 have HG14 := Aside0.mk (blk_below HG13.out hb)
 clear hb HB3 q0 q1 HG03 HG13
 have q0 : wD.cell? ⟨g0 + 1, 0, none⟩ = some (.int .i64 b1) := blk_cellP HG14.out 0 _ rfl
 have q1 : wD.cell? ⟨g0 + 1, 1, none⟩ = some (.slice A1 ts1.length c1) := blk_cellP HG14.out 1 _ rfl
 go_wp2_with fail
 refine (print_Set.calls b1 A1 c1 ts1 y e1 wD (Kd.C_below HC1.out HB4.out) hc1 Y1.out (HT.out.step HB4.out)).mono ?_
 rintro e wE ⟨rfl, hb⟩
 have HB5 := Aside0.mk (below_step HB4.out hb)
 have HG05 := Aside0.mk (blk_below HG04.out hb)
 have HG15 := Aside0.mk (blk_below HG14.out hb)
 clear hb HB4 q0 q1 HG04 HG14
 have q0 : wE.cell? ⟨g0, 0, none⟩ = some (.int .i64 b0) := blk_cellP HG05.out 0 _ rfl
 have q1 : wE.cell? ⟨g0, 1, none⟩ = some (.slice A0 ts0.length c0) := blk_cellP HG05.out 1 _ rfl
 go_wp2_with fail
 refine (pendulumref05_Right.calls b0 A0 c0 ts0 false _ (Kd.C_below HC0.out HB5.out) hc0 HRR.out).mono ?_
 rintro e wF ⟨rfl, hb⟩
 have HB6 := Aside0.mk (below_step HB5.out hb)
 clear hb
 go_wp2_with fail
 go_ret
 exact ⟨rfl, HB6.out⟩
set_option maxHeartbeats 8000000 in
set_option maxRecDepth 100000 in
theorem back_right (b0 : Int) (A0 : Option Addr) (c0 : Nat) (ts0 : List TK) (b1 : Int) (A1 : Option Addr) (c1 : Nat) (ts1 : List TK) (W : World) (hC0 : Kd.C k26 W A0 ts0.length ts0) (hc0 : ts0.length ≤ c0) (hC1 : Kd.C k26 W A1 ts1.length ts1) (hc1 : ts1.length ≤ c1) (htab : TabS W.heap.size W) (h0 : fewB ts0 = true) (h1 : fewB ts1 = true) (hr : (whyS b0 ts0).1 = 0) (TB : Aside0 (intI b1 ∧ ∀ t ∈ ts1, intT t)) :
  Calls Tryd.prog 5 #[.agg #[.int .i64 b0, .slice A0 ts0.length c0], .agg #[.int .i64 b1, .slice A1 ts1.length c1]] W fun e w' => e = .returned (.bool true) ∧ Below W.heap.size W w' := by
 have HC0 := Aside0.mk hC0
 have HC1 := Aside0.mk hC1
 have HT := Aside0.mk htab
 have HB : Aside0 (Below W.heap.size W ((W.alloc (.cells #[.int .i64 b0, .slice A0 ts0.length c0] 24 (0, 0))).alloc (.cells #[.int .i64 b1, .slice A1 ts1.length c1] 24 (0, 0)))) := ⟨below_alloc (below_alloc (Below.refl _ _) _) _⟩
 obtain ⟨W1, hW1⟩ : ∃ W1, W1 = (W.alloc (.cells #[.int .i64 b0, .slice A0 ts0.length c0] 24 (0, 0))).alloc (.cells #[.int .i64 b1, .slice A1 ts1.length c1] 24 (0, 0)) := ⟨_, rfl⟩
 have HW1 := Aside0.mk hW1
 rw [← hW1] at HB
 have HG0 : Aside0 (W1.heap[W.heap.size]? = some (.cells #[.int .i64 b0, .slice A0 ts0.length c0] 24 (0, 0))) := ⟨by rw [hW1]; exact blk_alloc (blk_new W _) _⟩
 have HG1 : Aside0 (W1.heap[W.heap.size + 1]? = some (.cells #[.int .i64 b1, .slice A1 ts1.length c1] 24 (0, 0))) := ⟨by
  rw [hW1]
  have h := blk_new (W.alloc (.cells #[.int .i64 b0, .slice A0 ts0.length c0] 24 (0, 0))) (.cells #[.int .i64 b1, .slice A1 ts1.length c1] 24 (0, 0))
  simpa using h⟩
 clear hC0 hC1 htab hW1
 have H0 := Aside0.mk h0
 have H1 := Aside0.mk h1
 obtain ⟨x, hx1, hx2, hx3, hx4, hx5⟩ := text_all b0 ts0 hr
 have X1 := Aside0.mk hx1
 have X3 := Aside0.mk hx3
 have X4 : Aside0 (x.size ≤ 9223372036854775807) := ⟨by omega⟩
 have X5 := Aside0.mk hx5
 obtain ⟨y, e1, hy, hz⟩ := print_any2 b1 ts1 TB.out.1 TB.out.2 h1
 have Y1 := Aside0.mk hy
 have HL1 : Aside0 (ts1.length ≤ 30) := ⟨fewB_len h1⟩
 have HZ : Aside0 (e1 = 0 → (x.toList == y.toList) = sameB b0 ts0 b1 ts1) := ⟨fun he => by
  obtain ⟨hw, hp⟩ := hz he
  obtain ⟨y2, hy1, hy2, hy3, hy4, hy5⟩ := text_all b1 ts1 hw
  have ey : y = y2 := by
   rw [hy] at hy1
   exact (Prod.mk.inj (Option.some.inj hy1)).1
  rw [ey]
  by_cases hs : sameB b0 ts0 b1 ts1 = true
  ·obtain ⟨q1, q2⟩ := (sameB_iff _ _ _ _).1 hs
   rw [hs]
   rw [← q1, ← q2, hx1] at hy1
   rw [(Prod.mk.inj (Option.some.inj hy1)).1]
   simp
  ·rw [Bool.eq_false_iff.2 hs]
   refine beq_eq_false_iff_ne.2 (fun e => hs ?_)
   rw [← ba_ext e] at hy3
   obtain ⟨q1, q2⟩ := text_inj _ _ _ _ x hx3 hy3
   exact (sameB_iff _ _ _ _).2 ⟨q1, q2⟩⟩
 clear h0 h1 hr hx1 hx2 hx3 hx4 hx5 hy hz TB
 go_enter Tryd.func5, Tryd.ntmps5
 go_wp2_with fail
 rw [← HW1.out]
 obtain ⟨g0, hg0⟩ : ∃ g0, W.heap.size = g0 := ⟨_, rfl⟩
 try rw [hg0]
 rw [hg0] at HG0 HG1
 have HGW := Aside0.mk hg0
 clear hg0 HW1
 refine (pendulumlaw07_awake.calls true _ rfl (HT.out.step HB.out)).mono ?_
 rintro e wA ⟨rfl, hb⟩
 have HB1 := Aside0.mk (below_step HB.out hb)
 have HC01 := Aside0.mk (Kd.C_below HC0.out HB1.out)
 have HC11 := Aside0.mk (Kd.C_below HC1.out HB1.out)
 have HG01 := Aside0.mk (blk_below HG0.out hb)
 have HG11 := Aside0.mk (blk_below HG1.out hb)
 clear hb HB HG0 HG1
 have q0 : wA.cell? ⟨g0, 0, none⟩ = some (.int .i64 b0) := blk_cellP HG01.out 0 _ rfl
 have q1 : wA.cell? ⟨g0, 1, none⟩ = some (.slice A0 ts0.length c0) := blk_cellP HG01.out 1 _ rfl
 go_wp2_with fail
 refine (pendulumref05_Few.calls 100 b0 A0 c0 ts0 true _ HC01.out hc0 (by rw [few_eq b0 ts0 100 (by decide), H0.out])).mono ?_
 rintro e wB ⟨rfl, hb⟩
 have HB2 := Aside0.mk (below_step HB1.out hb)
 have HG02 := Aside0.mk (blk_below HG01.out hb)
 have HG12 := Aside0.mk (blk_below HG11.out hb)
 clear hb HB1 q0 q1 HG01 HG11 HC01 HC11
 have q0 : wB.cell? ⟨g0 + 1, 0, none⟩ = some (.int .i64 b1) := blk_cellP HG12.out 0 _ rfl
 have q1 : wB.cell? ⟨g0 + 1, 1, none⟩ = some (.slice A1 ts1.length c1) := blk_cellP HG12.out 1 _ rfl
 go_wp2_with fail
 refine (pendulumref05_Few.calls 100 b1 A1 c1 ts1 true _ (Kd.C_below HC1.out HB2.out) hc1 (by rw [few_eq b1 ts1 100 (by decide), H1.out])).mono ?_
 rintro e wC ⟨rfl, hb⟩
 have HB3 := Aside0.mk (below_step HB2.out hb)
 have HG03 := Aside0.mk (blk_below HG02.out hb)
 have HG13 := Aside0.mk (blk_below HG12.out hb)
 clear hb HB2 q0 q1 HG02 HG12
 have q0 : wC.cell? ⟨g0, 0, none⟩ = some (.int .i64 b0) := blk_cellP HG03.out 0 _ rfl
 have q1 : wC.cell? ⟨g0, 1, none⟩ = some (.slice A0 ts0.length c0) := blk_cellP HG03.out 1 _ rfl
 go_wp2_with fail
 refine (print_Set.calls b0 A0 c0 ts0 x 0 wC (Kd.C_below HC0.out HB3.out) hc0 X1.out (HT.out.step HB3.out)).mono ?_
 rintro e wD ⟨rfl, hb⟩
 have HB4 := Aside0.mk (below_step HB3.out hb)
 have HG04 := Aside0.mk (blk_below HG03.out hb)
 have HG14 := Aside0.mk (blk_below HG13.out hb)
 clear hb HB3 q0 q1 HG03 HG13
 have q0 : wD.cell? ⟨g0 + 1, 0, none⟩ = some (.int .i64 b1) := blk_cellP HG14.out 0 _ rfl
 have q1 : wD.cell? ⟨g0 + 1, 1, none⟩ = some (.slice A1 ts1.length c1) := blk_cellP HG14.out 1 _ rfl
 go_wp2_with fail
 refine (print_Set.calls b1 A1 c1 ts1 y e1 wD (Kd.C_below HC1.out HB4.out) hc1 Y1.out (HT.out.step HB4.out)).mono ?_
 rintro e wE ⟨rfl, hb⟩
 have HB5 := Aside0.mk (below_step HB4.out hb)
 have HG05 := Aside0.mk (blk_below HG04.out hb)
 have HG15 := Aside0.mk (blk_below HG14.out hb)
 clear hb HB4 q0 q1 HG04 HG14
 have q0 : wE.cell? ⟨g0, 0, none⟩ = some (.int .i64 b0) := blk_cellP HG05.out 0 _ rfl
 have q1 : wE.cell? ⟨g0, 1, none⟩ = some (.slice A0 ts0.length c0) := blk_cellP HG05.out 1 _ rfl
 go_wp2_with ((with_reducible refine gate_ (.convert 9 41 (.tmp 42)) rfl ?_); go_must (refine conv_event rfl rfl rfl X4.out ?_; intro Ax cx w3 hC3 hc3 hb3))
 have HC3 := Aside0.mk hC3
 have HCC3 := Aside0.mk hc3
 have HB6 := Aside0.mk (below_step HB5.out hb3)
 have HG06 := Aside0.mk (blk_below HG05.out hb3)
 have HG16 := Aside0.mk (blk_below HG15.out hb3)
 clear hC3 hc3 hb3 HB5 HG05 HG15 q0 q1
 refine (parse_Set.calls (some Ax) cx (bytesOf x) b0 ts0 0 0 0 w3 HC3.out HCC3.out X3.out).mono ?_
 rintro e wF ⟨v1, rfl, hR, hb⟩
 obtain ⟨Av, cv, rfl, hcv, hCv⟩ := Kd.R_reads hR
 obtain ⟨wG, hwG⟩ : ∃ wG, wG = (wF.alloc (.cells #[.int .i64 b0, .slice Av ts0.length cv] 24 (0, 0))).alloc (.cells #[.int .i64 0, .int .i64 0, .int .i64 0] 38 (0, 0)) := ⟨_, rfl⟩
 have hbG : Below w3.heap.size w3 wG := by rw [hwG]; exact below_alloc (below_alloc hb _) _
 have HB7 := Aside0.mk (below_step HB6.out hbG)
 have HG07 := Aside0.mk (blk_below HG06.out hbG)
 have HG17 := Aside0.mk (blk_below HG16.out hbG)
 have HV7 : Aside0 (Kd.C k26 wG Av ts0.length ts0) := ⟨Kd.C_below hCv (by rw [hwG]; exact below_alloc (below_alloc (Below.refl _ _) _) _)⟩
 have HH0 : Aside0 (wG.heap[wF.heap.size]? = some (.cells #[.int .i64 b0, .slice Av ts0.length cv] 24 (0, 0))) := ⟨by rw [hwG]; exact blk_alloc (blk_new wF _) _⟩
 have HH1 : Aside0 (wG.heap[wF.heap.size + 1]? = some (.cells #[.int .i64 0, .int .i64 0, .int .i64 0] 38 (0, 0))) := ⟨by
  rw [hwG]
  have h := blk_new (wF.alloc (.cells #[.int .i64 b0, .slice Av ts0.length cv] 24 (0, 0))) (.cells #[.int .i64 0, .int .i64 0, .int .i64 0] 38 (0, 0))
  simpa using h⟩
 have HCV := Aside0.mk hcv
 have HWG := Aside0.mk hwG
 obtain ⟨gf, hgf⟩ : ∃ gf, wF.heap.size = gf := ⟨_, rfl⟩
 rw [hgf] at HH0 HH1
 have HGF := Aside0.mk hgf
 clear hR hb hCv hcv hbG hwG HB6 HG06 HG16 hgf
 go_wp2_with fail
 rw [← HWG.out]
 try rw [HGF.out]
 clear HWG HGF
 refine (print_Set.calls b0 Av cv ts0 x 0 wG HV7.out HCV.out X1.out (HT.out.step HB7.out)).mono ?_
 rintro e wH ⟨rfl, hb⟩
 have HB8 := Aside0.mk (below_step HB7.out hb)
 have HG08 := Aside0.mk (blk_below HG07.out hb)
 have HG18 := Aside0.mk (blk_below HG17.out hb)
 have HV8 := Aside0.mk (Kd.C_below HV7.out hb)
 have HH08 := Aside0.mk (blk_below HH0.out hb)
 have HH18 := Aside0.mk (blk_below HH1.out hb)
 clear hb HB7 HG07 HG17 HV7 HH0 HH1
 have q0 : wH.cell? ⟨g0, 0, none⟩ = some (.int .i64 b0) := blk_cellP HG08.out 0 _ rfl
 have q1 : wH.cell? ⟨g0, 1, none⟩ = some (.slice A0 ts0.length c0) := blk_cellP HG08.out 1 _ rfl
 have q2 : wH.cell? ⟨gf, 0, none⟩ = some (.int .i64 b0) := blk_cellP HH08.out 0 _ rfl
 have q3 : wH.cell? ⟨gf, 1, none⟩ = some (.slice Av ts0.length cv) := blk_cellP HH08.out 1 _ rfl
 have q4 : wH.cell? ⟨gf + 1, 0, none⟩ = some (.int .i64 0) := blk_cellP HH18.out 0 _ rfl
 go_wp2_with fail
 refine (pendulumref05_Same.calls 100 b0 Av cv ts0 b0 A0 c0 ts0 true _ HV8.out HCV.out (Kd.C_below HC0.out HB8.out) hc0 (by rw [same_eq _ _ _ _ (by have := X5.out; omega) (by have := X5.out; omega) 100 (by have := X5.out; omega), sameB_self])).mono ?_
 rintro e wI ⟨rfl, hb⟩
 have HB9 := Aside0.mk (below_step HB8.out hb)
 have HG09 := Aside0.mk (blk_below HG08.out hb)
 have HG19 := Aside0.mk (blk_below HG18.out hb)
 clear hb HB8 HG08 HG18 q0 q1 q2 q3 q4 HV8 HH08 HH18
 have q0 : wI.cell? ⟨g0, 0, none⟩ = some (.int .i64 b0) := blk_cellP HG09.out 0 _ rfl
 have q1 : wI.cell? ⟨g0, 1, none⟩ = some (.slice A0 ts0.length c0) := blk_cellP HG09.out 1 _ rfl
 have q2 : wI.cell? ⟨g0 + 1, 0, none⟩ = some (.int .i64 b1) := blk_cellP HG19.out 0 _ rfl
 have q3 : wI.cell? ⟨g0 + 1, 1, none⟩ = some (.slice A1 ts1.length c1) := blk_cellP HG19.out 1 _ rfl
 have p0 : (x.toList == x.toList) = true := beq_self_eq_true _
 by_cases he : e1 = 0
 ·subst he
  have z0 := HZ.out rfl
  have HZ2 := Aside0.mk z0
  clear HZ z0
  go_wp2_with fail
  refine (pendulumref05_Same.calls 100 b0 A0 c0 ts0 b1 A1 c1 ts1 (sameB b0 ts0 b1 ts1) _ (Kd.C_below HC0.out HB9.out) hc0 (Kd.C_below HC1.out HB9.out) hc1 (same_eq _ _ _ _ (by have := X5.out; omega) (by have := HL1.out; omega) 100 (by have := X5.out; omega))).mono ?_
  rintro e wJ ⟨rfl, hb⟩
  have HB10 := Aside0.mk (below_step HB9.out hb)
  clear hb
  go_wp2_with fail
  go_ret
  refine ⟨?_, HB10.out⟩
  have := HZ2.out
  first | rfl | (simp [this]; done) | (rw [this]; simp)
 ·have b1 : (e1 != 0) = true := bne_iff_ne.2 he
  clear he HZ
  go_wp2_with fail
  go_ret
  exact ⟨by first | rfl | simp, HB9.out⟩
theorem PrintBack_law (b0 : Int) (A0 : Option Addr) (c0 : Nat) (ts0 : List TK) (b1 : Int) (A1 : Option Addr) (c1 : Nat) (ts1 : List TK) (W : World) (hC0 : Kd.C k26 W A0 ts0.length ts0) (hc0 : ts0.length ≤ c0) (hok0 : ∀ t ∈ ts0, okTask t) (hb0 : (Lit.int .i64 b0).wf = true) (hC1 : Kd.C k26 W A1 ts1.length ts1) (hc1 : ts1.length ≤ c1) (hok1 : ∀ t ∈ ts1, okTask t) (hb1 : (Lit.int .i64 b1).wf = true) (htab : TabS W.heap.size W) :
  Calls Tryd.prog 5 #[.agg #[.int .i64 b0, .slice A0 ts0.length c0], .agg #[.int .i64 b1, .slice A1 ts1.length c1]] W fun e w' => e = .returned (.bool true) ∧ Below W.heap.size W w' := by
 have TB : Aside0 (intI b1 ∧ ∀ t ∈ ts1, intT t) := ⟨intI_of hb1, fun t ht => intT_of (hok1 t ht)⟩
 cases h0 : fewB ts0 with
 | false => exact back_far b0 A0 c0 ts0 b1 A1 c1 ts1 W hC0 hc0 hC1 hc1 htab h0
 | true =>
  cases h1 : fewB ts1 with
  | false => exact back_far2 b0 A0 c0 ts0 b1 A1 c1 ts1 W hC0 hc0 hC1 hc1 htab h0 h1
  | true =>
   by_cases hr : (whyS b0 ts0).1 = 0
   ·exact back_right b0 A0 c0 ts0 b1 A1 c1 ts1 W hC0 hc0 hC1 hc1 htab h0 h1 hr TB
   ·exact back_wrong b0 A0 c0 ts0 b1 A1 c1 ts1 W hC0 hc0 hC1 hc1 htab h0 h1 hr TB
end Go.Proofs.YtadfcdpalcgghaaDoor.Q
