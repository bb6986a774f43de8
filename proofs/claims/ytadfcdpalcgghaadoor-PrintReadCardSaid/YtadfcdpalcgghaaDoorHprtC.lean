-- print.Set: walked by hand, in whatever world that holds strconv's table.
-- HAND pendulum/print.Set rounds=0 making=1
-- NEEDS pendulum/task.Right
import Derived.Test.YtadfcdpalcgghaaDoorM0
import Derived.Test.YtadfcdpalcgghaaDoorM10
import Derived.Test.YtadfcdpalcgghaaDoorHtaskC
namespace Go.Proofs.YtadfcdpalcgghaaDoor.Q
open Go.RowKit Go.Proofs.YtadfcdpalcgghaaDoorW.PrintWords Go.Proofs.YtadfcdpalcgghaaDoorW.PrintLast Go.Proofs.YtadfcdpalcgghaaDoorW.PrintMore
attribute [local go_sem] max2_int min2_int max_two min_two max_three min_three max_four min_four   -- for this text's walks alone
set_option linter.unusedVariables false
set_option linter.unusedSimpArgs false

def wBurstB : ByteArray := ⟨#[98, 117, 114, 115, 116]⟩
/-- A set's lines. -/
def linesB (l : List TK) : List UInt8 := l.flatMap (fun t => lineB t ++ [10])
/-- A right set's text. -/
def textB (b : Int) (ts : List TK) : List UInt8 := (wBurstB.data.toList ++ (numsB [b] ++ [10])) ++ linesB ts
theorem TabS.step {W w : World} (h : TabS W.heap.size W) (hb : Below W.heap.size W w) : TabS w.heap.size w := fun w' h' => h w' (below_step hb h')
theorem linesB_snoc (l : List TK) (t : TK) : linesB (l ++ [t]) = linesB l ++ (lineB t ++ [10]) := by unfold linesB; rw [List.flatMap_append]; simp
theorem lineB_len {t : TK} (hi : intT t) (hs : t.f0.size ≤ 1000000) : (lineB t).length ≤ 1001000 := by
 have h1 : wTaskB.data.toList.length = 5 := rfl
 have h2 : t.f0.data.toList.length = t.f0.size := rfl
 have h3 := numsB_len [t.f1, t.f2, t.f3] (fun n hn => hi n (by simp at hn ⊢; omega))
 have h4 := numsB_len [t.f4, t.f5, t.f6, t.f7, t.f8, t.f10] (fun n hn => hi n (by simp at hn ⊢; omega))
 have h5 := modeW_len t.f9
 have h6 : (modeW t.f9).data.toList.length = (modeW t.f9).size := rfl
 simp only [List.length_cons, List.length_nil] at h3 h4
 unfold lineB
 simp only [List.length_append, List.length_cons, h1, h2, h6]
 omega
theorem linesB_len : ∀ (l : List TK), (∀ t ∈ l, intT t ∧ t.f0.size ≤ 1000000) → (linesB l).length ≤ 1001001 * l.length
 | [], _ => by simp [linesB]
 | t :: r, h => by
  have h1 := linesB_len r (fun x hx => h x (List.mem_cons_of_mem _ hx))
  have h2 := lineB_len (h t List.mem_cons_self).1 (h t List.mem_cons_self).2
  have e : linesB (t :: r) = (lineB t ++ [10]) ++ linesB r := by simp [linesB]
  rw [e, List.length_append, List.length_append, List.length_cons, List.length_cons, List.length_nil]
  omega
set_option maxHeartbeats 4000000 in
set_option maxRecDepth 100000 in
theorem set_text (b0 : Int) (A : Option Addr) (c : Nat) (ts : List TK) (W : World) (hC : Kd.C k26 W A ts.length ts) (hc : ts.length ≤ c) (ht : TabS W.heap.size W) (hb0 : -9223372036854775808 ≤ b0 ∧ b0 ≤ 9223372036854775807) (hts : ∀ t ∈ ts, intT t ∧ t.f0.size ≤ 1000000) (hr : (whyS b0 ts).1 = 0) (hl : ts.length ≤ 50) :
  Calls Tryd.prog 9 #[.agg #[.int .i64 b0, .slice A ts.length c]] W fun e w' => e = .returned (.tuple #[.string ⟨(textB b0 ts).toArray⟩, .int .i64 0]) ∧ Below W.heap.size W w' := by
 have HC := Aside0.mk hC
 have HT := Aside0.mk ht
 have HN := Aside0.mk hts
 have HN0 := Aside0.mk hb0
 obtain ⟨gs, hgs⟩ : ∃ gs, W.heap.size = gs := ⟨_, rfl⟩
 obtain ⟨W1, hW1⟩ : ∃ W1, W1 = W.alloc (.cells #[.int .i64 b0, .slice A ts.length c] 24 (0, 0)) := ⟨_, rfl⟩
 have HB1 : Aside0 (Below W.heap.size W W1) := ⟨by rw [hW1]; exact below_alloc (Below.refl _ _) _⟩
 have HS1 : Aside0 (W1.heap[gs]? = some (.cells #[.int .i64 b0, .slice A ts.length c] 24 (0, 0))) := ⟨by rw [hW1, ← hgs]; exact blk_new W _⟩
 have HW1 := Aside0.mk hW1
 have HEG := Aside0.mk hgs
 have hrt : task_Right.f b0 ts = some true := by show some ((whyS b0 ts).1 == 0) = some true; rw [hr]; rfl
 have HRT := Aside0.mk hrt
 clear hC ht hts hb0 hr hrt hW1 hgs
 go_enter Tryd.func9, Tryd.ntmps9
 go_wp2_with fail
 rw [← HW1.out]
 try rw [HEG.out]
 refine (task_Right.calls b0 A c ts true W1 (Kd.C_below HC.out HB1.out) hc HRT.out).mono ?_
 rintro e wA ⟨rfl, hb⟩
 have HBA := Aside0.mk (below_step HB1.out hb)
 have HSA := Aside0.mk (blk_below HS1.out hb)
 clear hb HB1 HS1 HW1
 go_wp2_with fail
 obtain ⟨b, hb⟩ : ∃ b, wA.heap.size = b := ⟨_, rfl⟩
 obtain ⟨W2, hW2⟩ : ∃ W2, W2 = wA.alloc (.cells #[.pointer none, .slice none 0 0] 45 (0, 0)) := ⟨_, rfl⟩
 have HI : Aside0 (BldS b b [] W2) := ⟨by rw [← hb, hW2]; exact Lib.IsBuilderF.of (Lib.fresh_isBuilder 45 5 wA)⟩
 have hsz : W2.heap.size = b + 1 := by rw [hW2, ← hb]; simp
 have hgb : gs < b := by have := blk_lt HSA.out; omega
 have HX : Aside0 (W2.heap[gs]? = some (.cells #[.int .i64 b0, .slice A ts.length c] 24 (0, 0))) := ⟨by rw [hW2]; exact blk_alloc HSA.out _⟩
 have HWW : Aside0 (Below W.heap.size W W2) := ⟨by rw [hW2]; exact below_alloc HBA.out _⟩
 have hwb : W.heap.size ≤ b := by rw [← hb]; exact HBA.out.size
 have HTB : Aside0 (TabS b W2) := ⟨fun w' h' => HT.out w' (HWW.out.trans (h'.mono hwb))⟩
 have HB : Aside0 (Below b W2 W2) := ⟨Below.refl _ _⟩
 have HBW : Aside0 (b ≤ W2.heap.size) := ⟨by omega⟩
 have HBW0 : Aside0 (b < W2.heap.size) := ⟨by omega⟩
 have HGB : Aside0 (gs < b) := ⟨hgb⟩
 have HEND : Aside0 (∀ w', Below b W2 w' → Below W.heap.size W w') := ⟨fun w' h' => HWW.out.trans (h'.mono hwb)⟩
 rw [← hW2, hb]
 clear hb hW2 hsz hgb hwb HBA HSA HEG
 refine (bld_string b b [] wBurstB W2 HI.out (by decide) HBW.out).mono ?_
 rintro e w1 ⟨rfl, hI, hb, -⟩
 have HI2 := Aside0.mk hI
 have HB2 := Aside0.mk (HB.out.trans hb)
 clear HI HB hI hb
 have HI := HI2
 have HB := HB2
 clear HI2 HB2
 have y0 : w1.cell? ⟨gs, 0, none⟩ = some (.int .i64 b0) := blk_cell ((HB.out.block gs HGB.out).trans HX.out) 0
 go_wp2_with fail
 obtain ⟨g2, hg2⟩ : ∃ g, w1.heap.size = g := ⟨_, rfl⟩
 obtain ⟨w2, hw2⟩ : ∃ x, x = w1.alloc (.cells #[.int .i64 b0] 3 (0, 0)) := ⟨_, rfl⟩
 have HR2 : Aside0 (w2.heap[g2]? = some (.cells #[.int .i64 b0] 3 (0, 0))) := ⟨by rw [hw2, ← hg2]; exact blk_new _ _⟩
 have HI2 : Aside0 (BldS b b _ w2) := ⟨HI.out.below (by rw [hw2]; exact below_alloc (Below.refl _ _) _)⟩
 have HB2 : Aside0 (Below b W2 w2) := ⟨HB.out.trans (by rw [hw2]; exact (below_alloc (Below.refl w1.heap.size _) _).mono (Nat.le_trans HBW.out HB.out.size))⟩
 have HNB : Aside0 (g2 ≠ b) := ⟨by have h1 := HB.out.size; have h2 := HBW0.out; rw [← hg2]; omega⟩
 rw [← hw2, hg2]
 clear hg2 hw2 HI HB y0
 have HI := HI2
 have HB := HB2
 clear HI2 HB2
 refine (prt_numbers b b _ (some ⟨g2, 0, none⟩) [b0] w2 HI.out (Nat.le_trans HBW.out HB.out.size) (HTB.out.on HB.out) (fun w' hk => row_C (hk _ _ HR2.out (fun e => HNB.out (Option.some.inj e)) (fun c fz e => by cases e)) (by simp)) (fun n hn => by have e : n = b0 := (by simpa using hn); rw [e]; exact HN0.out) (by decide) (by simp)).mono ?_
 rintro e w3 ⟨rfl, hI, hb⟩
 have HI2 := Aside0.mk hI
 have HB2 := Aside0.mk (HB.out.trans hb)
 clear HI HB hI hb HR2 HNB
 have HI := HI2
 have HB := HB2
 clear HI2 HB2
 have HL : Aside0 (([] ++ wBurstB.data.toList ++ numsB [b0]).length ≤ 100) := ⟨by
  have h1 : wBurstB.data.toList.length = 5 := rfl
  have h3 := numsB_len [b0] (fun n hn => by have e : n = b0 := (by simpa using hn); rw [e]; exact HN0.out)
  simp only [List.length_cons, List.length_nil] at h3
  simp only [List.nil_append, List.length_append, h1]
  omega⟩
 go_wp2_with fail
 refine (bld_byte b b _ 10 w3 HI.out (by have := HL.out; omega) (Nat.le_trans HBW.out HB.out.size)).mono ?_
 rintro e w4 ⟨rfl, hI, hb, -⟩
 have HI2 : Aside0 (BldS b b ((wBurstB.data.toList ++ (numsB [b0] ++ [10])) ++ linesB (ts.take 0)) w4) := ⟨by simpa [linesB] using hI⟩
 have HB2 := Aside0.mk (HB.out.trans hb)
 clear HI HB hI hb
 have HI := HI2
 have HB := HB2
 clear HI2 HB2
 have HHL : Aside0 ((wBurstB.data.toList ++ (numsB [b0] ++ [10])).length ≤ 200) := ⟨by have h := HL.out; simp only [List.nil_append, List.length_append, List.length_cons, List.length_nil] at h ⊢; omega⟩
 have y1 : w4.cell? ⟨gs, 1, none⟩ = some (.slice A ts.length c) := blk_cell ((HB.out.block gs HGB.out).trans HX.out) 1
 clear HL
 go_wp2_with fail
 clear y1
 go_loopg [19] ts.length (fun kk v19 wr => ∃ i : Nat, v19 = .int .i64 i ∧ i + kk = ts.length ∧ Aside0 (BldS b b ((wBurstB.data.toList ++ (numsB [b0] ++ [10])) ++ linesB (ts.take i)) wr) ∧ Aside0 (Below b W2 wr))
 case atStart => exact ⟨0, rfl, by omega, HI, HB⟩
 case round =>
  clear HI HB
  obtain ⟨i, rfl, hik, HI, HB⟩ := hrel
  by_cases hlt : i < ts.length
  ·have hd : decide ((i : Int) < (ts.length : Int)) = true := by simp; omega
   obtain ⟨ad, e, x0, x1, x2, x3, x4, x5, x6, x7, x8, x9, x10⟩ := at_T26 (Kd.C_below HC.out (HEND.out _ HB.out)) (i : Int) (by omega) (by omega)
   cases e
   simp only [Int.toNat_natCast] at x0 x1 x2 x3 x4 x5 x6 x7 x8 x9 x10
   obtain ⟨t, ht⟩ : ∃ t, rd_T26 ts (i : Int) = t := ⟨_, rfl⟩
   have HTI : Aside0 (ts[i]? = some t) := ⟨by rw [← ht]; simp [rd_T26, List.getD_eq_getElem?_getD, List.getElem?_eq_getElem hlt]⟩
   rw [ht] at x0 x1 x2 x3 x4 x5 x6 x7 x8 x9 x10
   have HTK : Aside0 (ts.take (i + 1) = ts.take i ++ [t]) := ⟨by
    have h := HTI.out
    rw [List.getElem?_eq_getElem hlt] at h
    rw [List.take_succ_eq_append_getElem hlt, Option.some.inj h]⟩
   have HNT := Aside0.mk (HN.out t (List.mem_of_getElem? HTI.out))
   have hll := linesB_len (ts.take i) (fun x hx => HN.out x (List.mem_of_mem_take hx))
   have htl : (ts.take i).length ≤ 50 := by rw [List.length_take]; omega
   have HLL : Aside0 (((wBurstB.data.toList ++ (numsB [b0] ++ [10])) ++ linesB (ts.take i)).length ≤ 60000000) := ⟨by rw [List.length_append]; have := HHL.out; omega⟩
   have p0 : (0 : Int) ≤ i := by omega
   have p1 : (i : Int) < (ts.length : Int) := by omega
   clear ht hll htl
   go_upto_region 10 with fail
   obtain ⟨gt, hgt⟩ : ∃ gt, wr.heap.size = gt := ⟨_, rfl⟩
   obtain ⟨w5, hw5⟩ : ∃ x, x = wr.alloc (.cells #[.string t.f0, .int .i64 t.f1, .int .i64 t.f2, .int .i64 t.f3, .int .i64 t.f4, .int .i64 t.f5, .int .i64 t.f6, .int .i64 t.f7, .int .i64 t.f8, .int .i64 t.f9, .int .i64 t.f10] 26 (0, 0)) := ⟨_, rfl⟩
   have HT5 : Aside0 (w5.heap[gt]? = some (.cells (tkC t) 26 (0, 0))) := ⟨by rw [hw5, ← hgt]; exact blk_new wr _⟩
   have HI2 : Aside0 (BldS b b _ w5) := ⟨HI.out.below (by rw [hw5]; exact below_alloc (Below.refl _ _) _)⟩
   have HB2 : Aside0 (Below b W2 w5) := ⟨HB.out.trans (by rw [hw5]; exact (below_alloc (Below.refl wr.heap.size _) _).mono (Nat.le_trans HBW.out HB.out.size))⟩
   rw [← hw5, hgt]
   clear hgt hw5 HI HB x0 x1 x2 x3 x4 x5 x6 x7 x8 x9 x10
   have HI := HI2
   have HB := HB2
   clear HI2 HB2
   have y0 : w5.cell? ⟨gt, 0, none⟩ = some (.string t.f0) := blk_cell HT5.out 0
   have y1 : w5.cell? ⟨gt, 1, none⟩ = some (.int .i64 t.f1) := blk_cell HT5.out 1
   have y2 : w5.cell? ⟨gt, 2, none⟩ = some (.int .i64 t.f2) := blk_cell HT5.out 2
   have y3 : w5.cell? ⟨gt, 3, none⟩ = some (.int .i64 t.f3) := blk_cell HT5.out 3
   have y4 : w5.cell? ⟨gt, 4, none⟩ = some (.int .i64 t.f4) := blk_cell HT5.out 4
   have y5 : w5.cell? ⟨gt, 5, none⟩ = some (.int .i64 t.f5) := blk_cell HT5.out 5
   have y6 : w5.cell? ⟨gt, 6, none⟩ = some (.int .i64 t.f6) := blk_cell HT5.out 6
   have y7 : w5.cell? ⟨gt, 7, none⟩ = some (.int .i64 t.f7) := blk_cell HT5.out 7
   have y8 : w5.cell? ⟨gt, 8, none⟩ = some (.int .i64 t.f8) := blk_cell HT5.out 8
   have y9 : w5.cell? ⟨gt, 9, none⟩ = some (.int .i64 t.f9) := blk_cell HT5.out 9
   have y10 : w5.cell? ⟨gt, 10, none⟩ = some (.int .i64 t.f10) := blk_cell HT5.out 10
   go_wp2_with fail
   refine (task_line t w5 HNT.out.1 HNT.out.2 (TabS.step HT.out (HEND.out _ HB.out))).mono ?_
   rintro e w6 ⟨rfl, hb⟩
   have HI2 := Aside0.mk (HI.out.below hb)
   have HB2 := Aside0.mk (HB.out.trans (hb.mono (Nat.le_trans HBW.out HB.out.size)))
   clear HI HB hb HT5 y0 y1 y2 y3 y4 y5 y6 y7 y8 y9 y10
   have HI := HI2
   have HB := HB2
   clear HI2 HB2
   have HLB := Aside0.mk (lineB_len HNT.out.1 HNT.out.2)
   go_wp2_with fail
   refine (bld_string b b _ ⟨(lineB t).toArray⟩ w6 HI.out (by have h1 := HLL.out; have h2 := HLB.out; show _ + (lineB t).toArray.size ≤ _; rw [List.size_toArray]; omega) (Nat.le_trans HBW.out HB.out.size)).mono ?_
   rintro e w7 ⟨rfl, hI, hb, -⟩
   have HI2 := Aside0.mk hI
   have HB2 := Aside0.mk (HB.out.trans hb)
   clear HI HB hI hb
   have HI := HI2
   have HB := HB2
   clear HI2 HB2
   go_wp2_with fail
   refine (bld_byte b b _ 10 w7 HI.out (by have h1 := HLL.out; have h2 := HLB.out; rw [List.length_append]; show _ + (lineB t).length ≤ _; omega) (Nat.le_trans HBW.out HB.out.size)).mono ?_
   rintro e w8 ⟨rfl, hI, hb, -⟩
   have HI2 : Aside0 (BldS b b ((wBurstB.data.toList ++ (numsB [b0] ++ [10])) ++ linesB (ts.take (i + 1))) w8) := ⟨by
    rw [HTK.out, linesB_snoc]
    have e : ((⟨(lineB t).toArray⟩ : ByteArray).data.toList) = lineB t := rfl
    try rw [e] at hI
    simpa using hI⟩
   have HB2 := Aside0.mk (HB.out.trans hb)
   clear HI HB hI hb
   go_wp2_with fail
   go_roundg (ts.length - (i + 1))
   case measure => omega
   case rel => exact ⟨i + 1, by first | rfl | simp, by omega, HI2, HB2⟩
  ·have hd : decide ((i : Int) < (ts.length : Int)) = false := by simp; omega
   have HI2 : Aside0 (BldS b b (textB b0 ts) wr) := ⟨by have h := HI.out; rw [List.take_of_length_le (by omega)] at h; exact h⟩
   go_wp2_with fail
   refine (bld_out b b _ wr HI2.out (Nat.le_trans HBW.out HB.out.size)).mono ?_
   rintro e wB ⟨rfl, hb⟩
   have HF := Aside0.mk (HEND.out _ (HB.out.trans hb))
   clear hb
   go_wp2_with fail
   go_ret2
   exact ⟨rfl, HF.out⟩
set_option maxHeartbeats 4000000 in
set_option maxRecDepth 100000 in
theorem set_wrong (b0 : Int) (A : Option Addr) (c : Nat) (ts : List TK) (W : World) (hC : Kd.C k26 W A ts.length ts) (hc : ts.length ≤ c) (hr : (whyS b0 ts).1 ≠ 0) :
  Calls Tryd.prog 9 #[.agg #[.int .i64 b0, .slice A ts.length c]] W fun e w' => e = .returned (.tuple #[.string ⟨#[]⟩, .int .i64 1]) ∧ Below W.heap.size W w' := by
 have HC := Aside0.mk hC
 obtain ⟨W1, hW1⟩ : ∃ W1, W1 = W.alloc (.cells #[.int .i64 b0, .slice A ts.length c] 24 (0, 0)) := ⟨_, rfl⟩
 have HB1 : Aside0 (Below W.heap.size W W1) := ⟨by rw [hW1]; exact below_alloc (Below.refl _ _) _⟩
 have HW1 := Aside0.mk hW1
 have hrt : task_Right.f b0 ts = some false := by show some ((whyS b0 ts).1 == 0) = some false; rw [beq_eq_false_iff_ne.2 hr]
 have HRT := Aside0.mk hrt
 clear hC hr hrt hW1
 go_enter Tryd.func9, Tryd.ntmps9
 go_wp2_with fail
 rw [← HW1.out]
 refine (task_Right.calls b0 A c ts false W1 (Kd.C_below HC.out HB1.out) hc HRT.out).mono ?_
 rintro e wA ⟨rfl, hb⟩
 have HF := Aside0.mk (below_step HB1.out hb)
 clear hb
 go_wp2_with fail
 go_ret2
 exact ⟨rfl, HF.out⟩
instance : DecidablePred intT := fun t => by unfold intT; infer_instance
def print_Set.f (b : Int) (ts : List TK) : Option (ByteArray × Int) := if (whyS b ts).1 = 0 then (if (-9223372036854775808 ≤ b ∧ b ≤ 9223372036854775807) ∧ (∀ t ∈ ts, intT t ∧ t.f0.size ≤ 1000000) ∧ ts.length ≤ 50 then some (⟨(textB b ts).toArray⟩, 0) else none) else some (⟨#[]⟩, 1)
theorem print_Set.calls (a0_0 : Int) (A0_1 : Option Addr) (c0_1 : Nat) (l0_1 : List TK) (r1 : ByteArray) (r2 : Int) (w : World) (hr0_1 : Kd.C k26 w A0_1 l0_1.length l0_1) (hc0_1 : l0_1.length ≤ c0_1) (h : print_Set.f a0_0 l0_1 = some (r1, r2)) (ht : TabS w.heap.size w) :
  Calls Tryd.prog 9 #[.agg #[.int .i64 a0_0, .slice A0_1 l0_1.length c0_1]] w fun e w' => e = .returned (.tuple #[.string r1, .int .i64 r2]) ∧ Below w.heap.size w w' := by
 unfold print_Set.f at h
 split at h
 ·rename_i h0
  split at h
  ·rename_i hh
   obtain ⟨e1, e2⟩ := Prod.mk.inj (Option.some.inj h)
   rw [← e1, ← e2]
   exact set_text a0_0 A0_1 c0_1 l0_1 w hr0_1 hc0_1 ht hh.1 hh.2.1 h0 hh.2.2
  ·cases h
 ·rename_i h0
  obtain ⟨e1, e2⟩ := Prod.mk.inj (Option.some.inj h)
  rw [← e1, ← e2]
  exact set_wrong a0_0 A0_1 c0_1 l0_1 w hr0_1 hc0_1 h0
end Go.Proofs.YtadfcdpalcgghaaDoor.Q
