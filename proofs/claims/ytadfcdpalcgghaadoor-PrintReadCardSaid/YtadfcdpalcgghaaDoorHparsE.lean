-- Where a set isn't right, as the parser tells it: walked by hand.
-- NEEDS slices.Index[[]string,string]
import Derived.Test.YtadfcdpalcgghaaDoorM0
import Derived.Test.YtadfcdpalcgghaaDoorHtaskC
import Derived.Test.YtadfcdpalcgghaaDoorHparsD
namespace Go.Proofs.YtadfcdpalcgghaaDoor.Q
open Go.RowKit Go.Proofs.YtadfcdpalcgghaaDoorW.PrintWords Go.Proofs.YtadfcdpalcgghaaDoorW.PrintLast Go.Proofs.YtadfcdpalcgghaaDoorW.PrintMore
attribute [local go_sem] max2_int min2_int max_two min_two max_three min_three max_four min_four   -- for this text's walks alone
set_option linter.unusedVariables false
set_option linter.unusedSimpArgs false

attribute [local go_sem] tok_f0 tok_f1 tok_f2 tok_f3 tok_f4
theorem whyFrom_range : ∀ (ts ahead : List TK) (i : Int), 0 ≤ i → (whyFrom ts ahead i).1 = 0 ∨ (3 ≤ (whyFrom ts ahead i).1 ∧ i ≤ (whyFrom ts ahead i).2 ∧ (whyFrom ts ahead i).2 < i + ts.length)
 | [], _, _, _ => .inl rfl
 | t :: r, ahead, i, hi => by
  rw [whyFrom]
  by_cases h : whyT t ahead = 0
  ·rw [if_pos h]
   rcases whyFrom_range r (ahead ++ [t]) (i + 1) (by omega) with h1 | ⟨h1, h2, h3⟩
   ·exact .inl h1
   ·exact .inr ⟨h1, by omega, by simp; omega⟩
  ·rw [if_neg h]
   have : 3 ≤ whyT t ahead := by
    unfold whyT at h ⊢
    split
    ·omega
    ·split
     ·omega
     ·split
      ·omega
      ·split
       ·omega
       ·split
        ·omega
        ·rename_i h1 h2 h3 h4 h5
         rw [if_neg h1, if_neg h2, if_neg h3, if_neg h4, if_neg h5] at h
         exact absurd rfl h
   exact .inr ⟨this, Int.le_refl _, by simp; omega⟩
theorem whyS_range (b : Int) (ts : List TK) : (whyS b ts).1 = 0 ∨ (whyS b ts).1 = 1 ∨ ((whyS b ts).1 = 2 ∧ (ts.length = 0 ∨ 16 < ts.length)) ∨ (3 ≤ (whyS b ts).1 ∧ 0 ≤ (whyS b ts).2 ∧ (whyS b ts).2 < ts.length) := by
 unfold whyS
 split
 ·exact .inr (.inl rfl)
 ·split
  ·rename_i h
   refine .inr (.inr (.inl ⟨rfl, ?_⟩))
   unfold inB at h; simp at h; omega
  ·rcases whyFrom_range ts [] 0 (by omega) with h | ⟨h1, h2, h3⟩
   ·exact .inl h
   ·exact .inr (.inr (.inr ⟨h1, h2, by omega⟩))
theorem spot_puts {w : World} {gr : Nat} {a b c : Value} {t : TypeId} (x y z : Value) (h : w.heap[gr]? = some (.cells #[a, b, c] t (0, 0))) : (((w.setCell ⟨gr, 0, none⟩ x).setCell ⟨gr, 1, none⟩ y).setCell ⟨gr, 2, none⟩ z).heap[gr]? = some (.cells #[x, y, z] t (0, 0)) :=
 blk_put (blk_put (blk_put h 0 x rfl) 1 y rfl) 2 z rfl
theorem below_spot {W wC : World} {n q : Nat} (hb : Below n W wC) (hq : n ≤ q) (x y z : Value) : Below n W (((wC.setCell ⟨q, 0, none⟩ x).setCell ⟨q, 1, none⟩ y).setCell ⟨q, 2, none⟩ z) :=
 ((hb.setCell (p := ⟨q, 0, none⟩) hq x).setCell (p := ⟨q, 1, none⟩) hq y).setCell (p := ⟨q, 2, none⟩) hq z
section
variable {w0 W W' : World} {ok : Nat → Prop} {g : Nat} {A : Option Addr} {c : Nat} {vts vhs : Value} {p : PS}
set_option maxHeartbeats 4000000 in
set_option maxRecDepth 100000 in
theorem wrong_ask (h : PrsX w0 ok W g A c vts vhs p) (hl : Ends p.l) (hth : p.hs.length = p.ts.length) :
  Calls Tryd.prog 30 #[.pointer (some ⟨g, 0, none⟩)] W fun e W' => e = .returned (.agg #[.int .i64 p.wrong.1, .int .i64 p.wrong.2.1, .int .i64 p.wrong.2.2]) ∧ Below W.heap.size W W' := by
 obtain ⟨gr, hgr⟩ : ∃ gr, W.heap.size = gr := ⟨_, rfl⟩
 obtain ⟨W1, hW1⟩ : ∃ W1, W1 = W.alloc (.cells #[.int .i64 0, .int .i64 0, .int .i64 0] 38 (0, 0)) := ⟨_, rfl⟩
 have hb1 : Below W.heap.size W W1 := by rw [hW1]; exact below_alloc (Below.refl _ _) _
 have HB1 := Aside0.mk hb1
 have HX := Aside0.mk (h.below hb1)
 have HR : Aside0 (W1.heap[gr]? = some (.cells #[.int .i64 0, .int .i64 0, .int .i64 0] 38 (0, 0))) := ⟨by rw [hW1, ← hgr]; exact blk_new W _⟩
 obtain ⟨At, ct, hvt, lt_, Ct⟩ := Kd.R_reads HX.out.2.2.2.2.1
 subst hvt
 have HCT := Aside0.mk Ct
 have HL := Aside0.mk hl
 have HTH := Aside0.mk hth
 have HW1 := Aside0.mk hW1
 have HGR := Aside0.mk hgr
 have x4 : W1.cell? ⟨g, 4, none⟩ = some (.int .i64 p.b) := blk_cell HX.out.1 4
 have x5 : W1.cell? ⟨g, 5, none⟩ = some (.slice At p.ts.length ct) := blk_cell HX.out.1 5
 rw [hW1] at x4 x5
 clear h hl hb1 hW1 hgr Ct hth
 go_enter Tryd.func30, Tryd.ntmps30
 go_wp2_with fail
 rw [show (W.alloc (.cells #[.int .i64 0, .int .i64 0, .int .i64 0] 38 (0, 0))) = W1 from HW1.out.symm, HGR.out]
 clear x4 x5
 refine (why_ask p.b At ct p.ts W1 HCT.out lt_).mono ?_
 rintro e wA ⟨rfl, hb⟩
 have HXA := Aside0.mk (HX.out.below hb)
 have HRA := Aside0.mk (blk_below HR.out hb)
 have HBA := Aside0.mk (below_step HB1.out hb)
 obtain ⟨wy, hwy⟩ : ∃ wy, (whyS p.b p.ts).1 = wy := ⟨_, rfl⟩
 obtain ⟨wt, hwt⟩ : ∃ wt, (whyS p.b p.ts).2 = wt := ⟨_, rfl⟩
 have HWY := Aside0.mk hwy
 have HWT := Aside0.mk hwt
 have hrange := whyS_range p.b p.ts
 rw [hwy, hwt] at hrange ⊢
 have HRG := Aside0.mk hrange
 clear hb HX HR HB1 HCT hwy hwt hrange
 go_wp2_with fail
 refine (now_ask HXA.out HL.out.ne).mono ?_
 rintro e wB ⟨rfl, hb⟩
 have HXB := Aside0.mk (HXA.out.below hb)
 have HRB := Aside0.mk (blk_below HRA.out hb)
 have HBB := Aside0.mk (below_step HBA.out hb)
 unfold tokC
 clear hb HXA HRA HBA
 -- WAYS
 rcases HRG.out with h0 | h0 | ⟨h0, h1 | h1⟩ | ⟨h0, h1, h2⟩
 ·subst h0
  have t3 : ∀ v0 v1 v2 v3 v4 : Value, (wB.alloc (.cells #[v0, v1, v2, v3, v4] 61 (0, 0))).cell? ⟨wB.heap.size, 3, none⟩ = some v3 := fun v0 v1 v2 v3 v4 => blk_cell (blk_new wB _) 3
  have t4 : ∀ v0 v1 v2 v3 v4 : Value, (wB.alloc (.cells #[v0, v1, v2, v3, v4] 61 (0, 0))).cell? ⟨wB.heap.size, 4, none⟩ = some v4 := fun v0 v1 v2 v3 v4 => blk_cell (blk_new wB _) 4
  have r0 : ∀ o, (wB.alloc o).cell? ⟨gr, 0, none⟩ = some (.int .i64 0) := fun o => blk_cell (blk_alloc HRB.out o) 0
  have r1 : ∀ o, (wB.alloc o).cell? ⟨gr, 1, none⟩ = some (.int .i64 0) := fun o => blk_cell (blk_alloc HRB.out o) 1
  have r2 : ∀ o, (wB.alloc o).cell? ⟨gr, 2, none⟩ = some (.int .i64 0) := fun o => blk_cell (blk_alloc HRB.out o) 2
  have q0 : ∀ o, (wB.alloc o).frozen? ⟨gr, 0, none⟩ = false := fun o => blk_frozen (blk_alloc HRB.out o) 0
  have q1 : ∀ o, (wB.alloc o).frozen? ⟨gr, 1, none⟩ = false := fun o => blk_frozen (blk_alloc HRB.out o) 1
  have q2 : ∀ o, (wB.alloc o).frozen? ⟨gr, 2, none⟩ = false := fun o => blk_frozen (blk_alloc HRB.out o) 2
  have ngr : wB.heap.size ≠ gr := by have := blk_lt HRB.out; omega
  go_wp2_with fail
  have hwb : W.heap.size ≤ wB.heap.size := HBB.out.size
  have hwr : W.heap.size ≤ gr := by have := HGR.out; omega
  refine bodyPost_ret (results_cell_row rfl _ _ gr 38 #[.int .i64 0, .int .i64 0, .int .i64 0] (0, 0) _ rfl (spot_puts _ _ _ (blk_alloc HRB.out _)) Tryd.underlying38 rfl (by kernel_rfl)) rfl ?_
  refine ⟨?_, (below_spot (below_alloc HBB.out _) hwr _ _ _)⟩
  unfold PS.wrong
  simp only [HWY.out]
  rfl
 ·subst h0
  have t3 : ∀ v0 v1 v2 v3 v4 : Value, (wB.alloc (.cells #[v0, v1, v2, v3, v4] 61 (0, 0))).cell? ⟨wB.heap.size, 3, none⟩ = some v3 := fun v0 v1 v2 v3 v4 => blk_cell (blk_new wB _) 3
  have t4 : ∀ v0 v1 v2 v3 v4 : Value, (wB.alloc (.cells #[v0, v1, v2, v3, v4] 61 (0, 0))).cell? ⟨wB.heap.size, 4, none⟩ = some v4 := fun v0 v1 v2 v3 v4 => blk_cell (blk_new wB _) 4
  have r0 : ∀ o, (wB.alloc o).cell? ⟨gr, 0, none⟩ = some (.int .i64 0) := fun o => blk_cell (blk_alloc HRB.out o) 0
  have r1 : ∀ o, (wB.alloc o).cell? ⟨gr, 1, none⟩ = some (.int .i64 0) := fun o => blk_cell (blk_alloc HRB.out o) 1
  have r2 : ∀ o, (wB.alloc o).cell? ⟨gr, 2, none⟩ = some (.int .i64 0) := fun o => blk_cell (blk_alloc HRB.out o) 2
  have q0 : ∀ o, (wB.alloc o).frozen? ⟨gr, 0, none⟩ = false := fun o => blk_frozen (blk_alloc HRB.out o) 0
  have q1 : ∀ o, (wB.alloc o).frozen? ⟨gr, 1, none⟩ = false := fun o => blk_frozen (blk_alloc HRB.out o) 1
  have q2 : ∀ o, (wB.alloc o).frozen? ⟨gr, 2, none⟩ = false := fun o => blk_frozen (blk_alloc HRB.out o) 2
  have ngr : wB.heap.size ≠ gr := by have := blk_lt HRB.out; omega
  have u0 : ∀ o, (wB.alloc o).frozen? ⟨wB.heap.size, 0, none⟩ = (wB.alloc o).frozen? ⟨wB.heap.size, 0, none⟩ := fun _ => rfl
  clear u0
  have s0 : ∀ v0 v1 v2 v3 v4 : Value, (wB.alloc (.cells #[v0, v1, v2, v3, v4] 61 (0, 0))).cell? ⟨wB.heap.size, 0, none⟩ = some v0 := fun v0 v1 v2 v3 v4 => blk_cell (blk_new wB _) 0
  have s1 : ∀ v0 v1 v2 v3 v4 : Value, (wB.alloc (.cells #[v0, v1, v2, v3, v4] 61 (0, 0))).cell? ⟨wB.heap.size, 1, none⟩ = some v1 := fun v0 v1 v2 v3 v4 => blk_cell (blk_new wB _) 1
  have s2 : ∀ v0 v1 v2 v3 v4 : Value, (wB.alloc (.cells #[v0, v1, v2, v3, v4] 61 (0, 0))).cell? ⟨wB.heap.size, 2, none⟩ = some v2 := fun v0 v1 v2 v3 v4 => blk_cell (blk_new wB _) 2
  have z0 : ∀ v0 v1 v2 v3 v4 : Value, (wB.alloc (.cells #[v0, v1, v2, v3, v4] 61 (0, 0))).frozen? ⟨wB.heap.size, 0, none⟩ = false := fun v0 v1 v2 v3 v4 => blk_frozen (blk_new wB _) 0
  have z1 : ∀ v0 v1 v2 v3 v4 : Value, (wB.alloc (.cells #[v0, v1, v2, v3, v4] 61 (0, 0))).frozen? ⟨wB.heap.size, 1, none⟩ = false := fun v0 v1 v2 v3 v4 => blk_frozen (blk_new wB _) 1
  have z2 : ∀ v0 v1 v2 v3 v4 : Value, (wB.alloc (.cells #[v0, v1, v2, v3, v4] 61 (0, 0))).frozen? ⟨wB.heap.size, 2, none⟩ = false := fun v0 v1 v2 v3 v4 => blk_frozen (blk_new wB _) 2
  have z3 : ∀ v0 v1 v2 v3 v4 : Value, (wB.alloc (.cells #[v0, v1, v2, v3, v4] 61 (0, 0))).frozen? ⟨wB.heap.size, 3, none⟩ = false := fun v0 v1 v2 v3 v4 => blk_frozen (blk_new wB _) 3
  have z4 : ∀ v0 v1 v2 v3 v4 : Value, (wB.alloc (.cells #[v0, v1, v2, v3, v4] 61 (0, 0))).frozen? ⟨wB.heap.size, 4, none⟩ = false := fun v0 v1 v2 v3 v4 => blk_frozen (blk_new wB _) 4
  have b0 : ∀ o, (wB.alloc o).cell? ⟨g, 6, none⟩ = some (.int .i64 p.bt.f0) := fun o => blk_cell (blk_alloc HXB.out.1 o) 6
  have b1 : ∀ o, (wB.alloc o).cell? ⟨g, 7, none⟩ = some (.string p.bt.f1) := fun o => blk_cell (blk_alloc HXB.out.1 o) 7
  have b2 : ∀ o, (wB.alloc o).cell? ⟨g, 8, none⟩ = some (.int .i64 p.bt.f2) := fun o => blk_cell (blk_alloc HXB.out.1 o) 8
  have b3 : ∀ o, (wB.alloc o).cell? ⟨g, 9, none⟩ = some (.int .i64 p.bt.f3) := fun o => blk_cell (blk_alloc HXB.out.1 o) 9
  have b4 : ∀ o, (wB.alloc o).cell? ⟨g, 10, none⟩ = some (.int .i64 p.bt.f4) := fun o => blk_cell (blk_alloc HXB.out.1 o) 10
  go_wp2_with fail
  have hwb : W.heap.size ≤ wB.heap.size := HBB.out.size
  have hwr : W.heap.size ≤ gr := by have := HGR.out; omega
  refine bodyPost_ret (results_cell_row rfl _ _ gr 38 #[.int .i64 1, .int .i64 p.bt.f3, .int .i64 p.bt.f4] (0, 0) _ rfl (spot_puts _ _ _ (blk_alloc HRB.out _)) Tryd.underlying38 rfl (by kernel_rfl)) rfl ?_
  refine ⟨?_, (below_spot (below_alloc HBB.out _) hwr _ _ _)⟩
  unfold PS.wrong
  simp only [HWY.out]
  rfl
 ·subst h0
  have hz : p.hs.length = 0 := by rw [HTH.out]; exact h1
  obtain ⟨Ah, ch, hvh, lh, Ch⟩ := Kd.R_reads HXB.out.2.2.2.2.2.1
  have x11 : ∀ o, (wB.alloc o).cell? ⟨g, 11, none⟩ = some (.slice Ah p.hs.length ch) := fun o => (blk_cell (blk_alloc HXB.out.1 o) 11).trans (by rw [← hvh]; rfl)
  have hvs := hvh
  clear hvh
  have t3 : ∀ v0 v1 v2 v3 v4 : Value, (wB.alloc (.cells #[v0, v1, v2, v3, v4] 61 (0, 0))).cell? ⟨wB.heap.size, 3, none⟩ = some v3 := fun v0 v1 v2 v3 v4 => blk_cell (blk_new wB _) 3
  have t4 : ∀ v0 v1 v2 v3 v4 : Value, (wB.alloc (.cells #[v0, v1, v2, v3, v4] 61 (0, 0))).cell? ⟨wB.heap.size, 4, none⟩ = some v4 := fun v0 v1 v2 v3 v4 => blk_cell (blk_new wB _) 4
  have r0 : ∀ o, (wB.alloc o).cell? ⟨gr, 0, none⟩ = some (.int .i64 0) := fun o => blk_cell (blk_alloc HRB.out o) 0
  have r1 : ∀ o, (wB.alloc o).cell? ⟨gr, 1, none⟩ = some (.int .i64 0) := fun o => blk_cell (blk_alloc HRB.out o) 1
  have r2 : ∀ o, (wB.alloc o).cell? ⟨gr, 2, none⟩ = some (.int .i64 0) := fun o => blk_cell (blk_alloc HRB.out o) 2
  have q0 : ∀ o, (wB.alloc o).frozen? ⟨gr, 0, none⟩ = false := fun o => blk_frozen (blk_alloc HRB.out o) 0
  have q1 : ∀ o, (wB.alloc o).frozen? ⟨gr, 1, none⟩ = false := fun o => blk_frozen (blk_alloc HRB.out o) 1
  have q2 : ∀ o, (wB.alloc o).frozen? ⟨gr, 2, none⟩ = false := fun o => blk_frozen (blk_alloc HRB.out o) 2
  have ngr : wB.heap.size ≠ gr := by have := blk_lt HRB.out; omega
  have hle : ¬ 0 < p.hs.length := by omega
  have HZ := Aside0.mk hz
  clear Ch
  go_wp2_with fail
  have hwb : W.heap.size ≤ wB.heap.size := HBB.out.size
  have hwr : W.heap.size ≤ gr := by have := HGR.out; omega
  refine bodyPost_ret (results_cell_row rfl _ _ gr 38 #[.int .i64 1, .int .i64 p.now.f3, .int .i64 p.now.f4] (0, 0) _ rfl (spot_puts _ _ _ (blk_alloc HRB.out _)) Tryd.underlying38 rfl (by kernel_rfl)) rfl ?_
  refine ⟨?_, (below_spot (below_alloc HBB.out _) hwr _ _ _)⟩
  unfold PS.wrong
  simp only [HWY.out, HZ.out]
  rfl
 ·subst h0
  have hz : 16 < p.hs.length := by rw [HTH.out]; exact h1
  obtain ⟨Ah, ch, hvh, lh, Ch⟩ := Kd.R_reads HXB.out.2.2.2.2.2.1
  have x11 : ∀ o, (wB.alloc o).cell? ⟨g, 11, none⟩ = some (.slice Ah p.hs.length ch) := fun o => (blk_cell (blk_alloc HXB.out.1 o) 11).trans (by rw [← hvh]; rfl)
  have hvs := hvh
  clear hvh
  obtain ⟨adh, e, y0, y1, y2, y3, y4⟩ := at_T61 Ch 16 (by omega) (by omega)
  cases e
  obtain ⟨qh, rfl⟩ := Kd.R_head (hvs ▸ HXB.out.2.2.2.2.2.1)
  simp only [show (16 : Int).toNat * 5 = 80 from rfl, add_at, Nat.zero_add] at y0 y1 y2 y3 y4
  have y0' := fun o => pw_cell_below (below_alloc (Below.refl _ wB) o) y0
  have y1' := fun o => pw_cell_below (below_alloc (Below.refl _ wB) o) y1
  have y2' := fun o => pw_cell_below (below_alloc (Below.refl _ wB) o) y2
  have y3' := fun o => pw_cell_below (below_alloc (Below.refl _ wB) o) y3
  have y4' := fun o => pw_cell_below (below_alloc (Below.refl _ wB) o) y4
  clear y0 y1 y2 y3 y4 Ch
  have t3 : ∀ v0 v1 v2 v3 v4 : Value, (wB.alloc (.cells #[v0, v1, v2, v3, v4] 61 (0, 0))).cell? ⟨wB.heap.size, 3, none⟩ = some v3 := fun v0 v1 v2 v3 v4 => blk_cell (blk_new wB _) 3
  have t4 : ∀ v0 v1 v2 v3 v4 : Value, (wB.alloc (.cells #[v0, v1, v2, v3, v4] 61 (0, 0))).cell? ⟨wB.heap.size, 4, none⟩ = some v4 := fun v0 v1 v2 v3 v4 => blk_cell (blk_new wB _) 4
  have r0 : ∀ o, (wB.alloc o).cell? ⟨gr, 0, none⟩ = some (.int .i64 0) := fun o => blk_cell (blk_alloc HRB.out o) 0
  have r1 : ∀ o, (wB.alloc o).cell? ⟨gr, 1, none⟩ = some (.int .i64 0) := fun o => blk_cell (blk_alloc HRB.out o) 1
  have r2 : ∀ o, (wB.alloc o).cell? ⟨gr, 2, none⟩ = some (.int .i64 0) := fun o => blk_cell (blk_alloc HRB.out o) 2
  have q0 : ∀ o, (wB.alloc o).frozen? ⟨gr, 0, none⟩ = false := fun o => blk_frozen (blk_alloc HRB.out o) 0
  have q1 : ∀ o, (wB.alloc o).frozen? ⟨gr, 1, none⟩ = false := fun o => blk_frozen (blk_alloc HRB.out o) 1
  have q2 : ∀ o, (wB.alloc o).frozen? ⟨gr, 2, none⟩ = false := fun o => blk_frozen (blk_alloc HRB.out o) 2
  have ngr : wB.heap.size ≠ gr := by have := blk_lt HRB.out; omega
  have u0 : ∀ o, (wB.alloc o).frozen? ⟨wB.heap.size, 0, none⟩ = (wB.alloc o).frozen? ⟨wB.heap.size, 0, none⟩ := fun _ => rfl
  clear u0
  have s0 : ∀ v0 v1 v2 v3 v4 : Value, (wB.alloc (.cells #[v0, v1, v2, v3, v4] 61 (0, 0))).cell? ⟨wB.heap.size, 0, none⟩ = some v0 := fun v0 v1 v2 v3 v4 => blk_cell (blk_new wB _) 0
  have s1 : ∀ v0 v1 v2 v3 v4 : Value, (wB.alloc (.cells #[v0, v1, v2, v3, v4] 61 (0, 0))).cell? ⟨wB.heap.size, 1, none⟩ = some v1 := fun v0 v1 v2 v3 v4 => blk_cell (blk_new wB _) 1
  have s2 : ∀ v0 v1 v2 v3 v4 : Value, (wB.alloc (.cells #[v0, v1, v2, v3, v4] 61 (0, 0))).cell? ⟨wB.heap.size, 2, none⟩ = some v2 := fun v0 v1 v2 v3 v4 => blk_cell (blk_new wB _) 2
  have z0 : ∀ v0 v1 v2 v3 v4 : Value, (wB.alloc (.cells #[v0, v1, v2, v3, v4] 61 (0, 0))).frozen? ⟨wB.heap.size, 0, none⟩ = false := fun v0 v1 v2 v3 v4 => blk_frozen (blk_new wB _) 0
  have z1 : ∀ v0 v1 v2 v3 v4 : Value, (wB.alloc (.cells #[v0, v1, v2, v3, v4] 61 (0, 0))).frozen? ⟨wB.heap.size, 1, none⟩ = false := fun v0 v1 v2 v3 v4 => blk_frozen (blk_new wB _) 1
  have z2 : ∀ v0 v1 v2 v3 v4 : Value, (wB.alloc (.cells #[v0, v1, v2, v3, v4] 61 (0, 0))).frozen? ⟨wB.heap.size, 2, none⟩ = false := fun v0 v1 v2 v3 v4 => blk_frozen (blk_new wB _) 2
  have z3 : ∀ v0 v1 v2 v3 v4 : Value, (wB.alloc (.cells #[v0, v1, v2, v3, v4] 61 (0, 0))).frozen? ⟨wB.heap.size, 3, none⟩ = false := fun v0 v1 v2 v3 v4 => blk_frozen (blk_new wB _) 3
  have z4 : ∀ v0 v1 v2 v3 v4 : Value, (wB.alloc (.cells #[v0, v1, v2, v3, v4] 61 (0, 0))).frozen? ⟨wB.heap.size, 4, none⟩ = false := fun v0 v1 v2 v3 v4 => blk_frozen (blk_new wB _) 4
  have hle : 0 < p.hs.length := by omega
  have HT16 : Aside0 (rd_T61 p.hs 16 = p.hs.getD 16 z61) := ⟨rfl⟩
  obtain ⟨th, hth⟩ : ∃ th, rd_T61 p.hs 16 = th := ⟨_, rfl⟩
  rw [hth] at y0' y1' y2' y3' y4' HT16
  have HLE := Aside0.mk hle
  clear hth
  go_wp2_with fail
  have hwb : W.heap.size ≤ wB.heap.size := HBB.out.size
  have hwr : W.heap.size ≤ gr := by have := HGR.out; omega
  refine bodyPost_ret (results_cell_row rfl _ _ gr 38 #[.int .i64 1, .int .i64 th.f3, .int .i64 th.f4] (0, 0) _ rfl (spot_puts _ _ _ (blk_alloc HRB.out _)) Tryd.underlying38 rfl (by kernel_rfl)) rfl ?_
  refine ⟨?_, (below_spot (below_alloc HBB.out _) hwr _ _ _)⟩
  unfold PS.wrong
  simp only [HWY.out, HLE.out, ← HT16.out]
  rfl
 ·have hz : wt < (p.hs.length : Int) := by rw [HTH.out]; exact h2
  obtain ⟨Ah, ch, hvh, lh, Ch⟩ := Kd.R_reads HXB.out.2.2.2.2.2.1
  have x11 : ∀ o, (wB.alloc o).cell? ⟨g, 11, none⟩ = some (.slice Ah p.hs.length ch) := fun o => (blk_cell (blk_alloc HXB.out.1 o) 11).trans (by rw [← hvh]; rfl)
  have hvs := hvh
  clear hvh
  obtain ⟨adh, e, y0, y1, y2, y3, y4⟩ := at_T61 Ch wt (by omega) (by omega)
  cases e
  have y0' := fun o => pw_cell_below (below_alloc (Below.refl _ wB) o) y0
  have y1' := fun o => pw_cell_below (below_alloc (Below.refl _ wB) o) y1
  have y2' := fun o => pw_cell_below (below_alloc (Below.refl _ wB) o) y2
  have y3' := fun o => pw_cell_below (below_alloc (Below.refl _ wB) o) y3
  have y4' := fun o => pw_cell_below (below_alloc (Below.refl _ wB) o) y4
  clear y0 y1 y2 y3 y4 Ch
  have t3 : ∀ v0 v1 v2 v3 v4 : Value, (wB.alloc (.cells #[v0, v1, v2, v3, v4] 61 (0, 0))).cell? ⟨wB.heap.size, 3, none⟩ = some v3 := fun v0 v1 v2 v3 v4 => blk_cell (blk_new wB _) 3
  have t4 : ∀ v0 v1 v2 v3 v4 : Value, (wB.alloc (.cells #[v0, v1, v2, v3, v4] 61 (0, 0))).cell? ⟨wB.heap.size, 4, none⟩ = some v4 := fun v0 v1 v2 v3 v4 => blk_cell (blk_new wB _) 4
  have r0 : ∀ o, (wB.alloc o).cell? ⟨gr, 0, none⟩ = some (.int .i64 0) := fun o => blk_cell (blk_alloc HRB.out o) 0
  have r1 : ∀ o, (wB.alloc o).cell? ⟨gr, 1, none⟩ = some (.int .i64 0) := fun o => blk_cell (blk_alloc HRB.out o) 1
  have r2 : ∀ o, (wB.alloc o).cell? ⟨gr, 2, none⟩ = some (.int .i64 0) := fun o => blk_cell (blk_alloc HRB.out o) 2
  have q0 : ∀ o, (wB.alloc o).frozen? ⟨gr, 0, none⟩ = false := fun o => blk_frozen (blk_alloc HRB.out o) 0
  have q1 : ∀ o, (wB.alloc o).frozen? ⟨gr, 1, none⟩ = false := fun o => blk_frozen (blk_alloc HRB.out o) 1
  have q2 : ∀ o, (wB.alloc o).frozen? ⟨gr, 2, none⟩ = false := fun o => blk_frozen (blk_alloc HRB.out o) 2
  have ngr : wB.heap.size ≠ gr := by have := blk_lt HRB.out; omega
  have u0 : ∀ o, (wB.alloc o).frozen? ⟨wB.heap.size, 0, none⟩ = (wB.alloc o).frozen? ⟨wB.heap.size, 0, none⟩ := fun _ => rfl
  clear u0
  have s0 : ∀ v0 v1 v2 v3 v4 : Value, (wB.alloc (.cells #[v0, v1, v2, v3, v4] 61 (0, 0))).cell? ⟨wB.heap.size, 0, none⟩ = some v0 := fun v0 v1 v2 v3 v4 => blk_cell (blk_new wB _) 0
  have s1 : ∀ v0 v1 v2 v3 v4 : Value, (wB.alloc (.cells #[v0, v1, v2, v3, v4] 61 (0, 0))).cell? ⟨wB.heap.size, 1, none⟩ = some v1 := fun v0 v1 v2 v3 v4 => blk_cell (blk_new wB _) 1
  have s2 : ∀ v0 v1 v2 v3 v4 : Value, (wB.alloc (.cells #[v0, v1, v2, v3, v4] 61 (0, 0))).cell? ⟨wB.heap.size, 2, none⟩ = some v2 := fun v0 v1 v2 v3 v4 => blk_cell (blk_new wB _) 2
  have z0 : ∀ v0 v1 v2 v3 v4 : Value, (wB.alloc (.cells #[v0, v1, v2, v3, v4] 61 (0, 0))).frozen? ⟨wB.heap.size, 0, none⟩ = false := fun v0 v1 v2 v3 v4 => blk_frozen (blk_new wB _) 0
  have z1 : ∀ v0 v1 v2 v3 v4 : Value, (wB.alloc (.cells #[v0, v1, v2, v3, v4] 61 (0, 0))).frozen? ⟨wB.heap.size, 1, none⟩ = false := fun v0 v1 v2 v3 v4 => blk_frozen (blk_new wB _) 1
  have z2 : ∀ v0 v1 v2 v3 v4 : Value, (wB.alloc (.cells #[v0, v1, v2, v3, v4] 61 (0, 0))).frozen? ⟨wB.heap.size, 2, none⟩ = false := fun v0 v1 v2 v3 v4 => blk_frozen (blk_new wB _) 2
  have z3 : ∀ v0 v1 v2 v3 v4 : Value, (wB.alloc (.cells #[v0, v1, v2, v3, v4] 61 (0, 0))).frozen? ⟨wB.heap.size, 3, none⟩ = false := fun v0 v1 v2 v3 v4 => blk_frozen (blk_new wB _) 3
  have z4 : ∀ v0 v1 v2 v3 v4 : Value, (wB.alloc (.cells #[v0, v1, v2, v3, v4] 61 (0, 0))).frozen? ⟨wB.heap.size, 4, none⟩ = false := fun v0 v1 v2 v3 v4 => blk_frozen (blk_new wB _) 4
  have n0 : ¬ wy = 0 := by omega
  have n1 : ¬ wy = 1 := by omega
  have n2 : ¬ wy = 2 := by omega
  have m0 : (wy == 0) = false := beq_eq_false_iff_ne.2 n0
  have m1 : (wy == 1) = false := beq_eq_false_iff_ne.2 n1
  have m2 : (wy == 2) = false := beq_eq_false_iff_ne.2 n2
  have HT16 : Aside0 (rd_T61 p.hs wt = p.hs.getD wt.toNat z61) := ⟨rfl⟩
  obtain ⟨th, hth⟩ : ∃ th, rd_T61 p.hs wt = th := ⟨_, rfl⟩
  rw [hth] at y0' y1' y2' y3' y4' HT16
  clear hth
  go_wp2_with fail
  have hwb : W.heap.size ≤ wB.heap.size := HBB.out.size
  have hwr : W.heap.size ≤ gr := by have := HGR.out; omega
  refine bodyPost_ret (results_cell_row rfl _ _ gr 38 #[.int .i64 1, .int .i64 th.f3, .int .i64 th.f4] (0, 0) _ rfl (spot_puts _ _ _ (blk_alloc HRB.out _)) Tryd.underlying38 rfl (by kernel_rfl)) rfl ?_
  refine ⟨?_, (below_spot (below_alloc HBB.out _) hwr _ _ _)⟩
  unfold PS.wrong
  simp only [HWY.out, HWT.out, if_neg n0, if_neg n1, if_neg n2, ← HT16.out]
 -- END WAYS
end
end Go.Proofs.YtadfcdpalcgghaaDoor.Q
