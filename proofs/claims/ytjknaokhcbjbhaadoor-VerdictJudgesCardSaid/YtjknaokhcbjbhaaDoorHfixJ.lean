-- The reference's Dear: walked by hand (printed by wip/genref19.py).
-- HAND pendulum/pendulumref19.Dear rounds=0 making=1
-- NEEDS pendulum/pendulumref14.Extra
import Derived.Test.YtjknaokhcbjbhaaDoorM0
import Derived.Test.YtjknaokhcbjbhaaDoorQ21
import Derived.Deep.RegionHeld3
import Derived.IntWalk
import Derived.WalkSpells
import Derived.BigQuiet
namespace Go.Proofs.YtjknaokhcbjbhaaDoor.Q
open Go.RowKit Go.Proofs.YtjknaokhcbjbhaaDoorW.PrintWords Go.Proofs.YtjknaokhcbjbhaaDoorW.PrintLast Go.Proofs.YtjknaokhcbjbhaaDoorW.PrintMore
attribute [local go_sem] max2_int min2_int max_two min_two max_three min_three max_four min_four   -- for this text's walks alone
set_option linter.unusedVariables false
set_option linter.unusedSimpArgs false

def pendulumref19_Dear.f (_b : Int) (ts : List TK) (a : Int) : Option Int := if (∀ t ∈ ts, Dem t) ∧ (ts.map (fun t => t.f10)).Nodup ∧ 0 ≤ a ∧ a < (ts.length : Int) ∧ ts.length ≤ 1000000 then some (dearL (rd_T42 ts a).f10 ts 0) else none
set_option maxHeartbeats 8000000 in
set_option maxRecDepth 100000 in
theorem ref_dear (b : Int) (A : Option Addr) (c : Nat) (ts : List TK) (a : Nat) (W : World) (hC : Kd.C k42 W A ts.length ts) (hc : ts.length ≤ c) (hD : ∀ t ∈ ts, Dem t) (hn : (ts.map (fun t => t.f10)).Nodup) (ha : a < ts.length) (hl : ts.length ≤ 1000000) :
  Calls Tryd.prog 48 #[.agg #[.int .i64 b, .slice A ts.length c], .int .i64 (a : Int)] W fun e w' => e = .returned (.int .i64 (dearL (rd_T42 ts (a : Int)).f10 ts 0)) ∧ Below W.heap.size W w' := by
 have HC := Aside0.mk hC
 have HD := Aside0.mk hD
 have HB1 : Aside0 (∀ o, Below W.heap.size W (W.alloc o)) := ⟨fun o => below_alloc (Below.refl _ _) _⟩
 have HK1 : Aside0 ((W.alloc (.cells #[.int .i64 b, .slice A ts.length c] 24 (0, 0))).heap[W.heap.size]? = some (.cells #[.int .i64 b, .slice A ts.length c] 24 (0, 0))) := ⟨blk_new W _⟩
 obtain ⟨gs, hgs⟩ : ∃ gs, W.heap.size = gs := ⟨_, rfl⟩
 rw [hgs] at HK1
 obtain ⟨P, hP⟩ : ∃ P, (rd_T42 ts (a : Int)).f10 = P := ⟨_, rfl⟩
 rw [hP]
 have HP := Aside0.mk hP
 have HNI : Aside0 (∀ (i : Nat) (t : TK), ts[i]? = some t → (i = a ↔ t.f10 = P)) := ⟨fun i t ht => key_at ts hn a P ha hP i t ht⟩
 have q0 : (0 : Int) ≤ a := by omega
 have q1 : (a : Int) < (ts.length : Int) := by omega
 clear hC hD hP hn
 go_enter Tryd.func48, Tryd.ntmps48
 go_wp2_with fail
 go_loopg [5, 6] ts.length (fun kk v5 v6 wr => ∃ (i : Nat) (m : Int), v6 = .int .i64 i ∧ v5 = .int .i64 m ∧ i + kk = ts.length ∧ Aside0 (dearL P (ts.drop i) m = dearL P ts 0) ∧ Aside0 (Below W.heap.size W wr) ∧ Aside0 (wr.heap[gs]? = some (.cells #[.int .i64 b, .slice A ts.length c] 24 (0, 0))))
 case atStart => exact ⟨0, 0, rfl, rfl, by omega, ⟨by simp⟩, ⟨HB1.out _⟩, HK1⟩
 case round =>
  clear HB1 HK1
  obtain ⟨i, m, rfl, rfl, hik, HF, HB, HK⟩ := hrel
  have s1 := blk_cell HK.out 1
  by_cases hlt : i < ts.length
  ·have hd : decide ((i : Int) < (ts.length : Int)) = true := by simp; omega
   obtain ⟨ad, e, x0, x1, x2, x3, x4, x5, x6, x7, x8, x9, x10⟩ := at_T42 (Kd.C_below HC.out HB.out) (i : Int) (by omega) (by omega)
   cases e
   simp only [Int.toNat_natCast] at x0 x1 x2 x3 x4 x5 x6 x7 x8 x9 x10
   obtain ⟨t, ht⟩ : ∃ t, rd_T42 ts (i : Int) = t := ⟨_, rfl⟩
   have HTI : Aside0 (ts[i]? = some t) := ⟨by rw [← ht]; simp [rd_T42, List.getD_eq_getElem?_getD, List.getElem?_eq_getElem hlt]⟩
   rw [ht] at x0 x1 x2 x3 x4 x5 x6 x7 x8 x9 x10
   have p0 : (0 : Int) ≤ i := by omega
   have p1 : (i : Int) < (ts.length : Int) := by omega
   clear ht
   go_upto_region 6 with fail
   obtain ⟨gt, hgt⟩ : ∃ gt, wr.heap.size = gt := ⟨_, rfl⟩
   obtain ⟨W2, hW2⟩ : ∃ W2, W2 = wr.alloc (.cells #[.string t.f0, .int .i64 t.f1, .int .i64 t.f2, .int .i64 t.f3, .int .i64 t.f4, .int .i64 t.f5, .int .i64 t.f6, .int .i64 t.f7, .int .i64 t.f8, .int .i64 t.f9, .int .i64 t.f10] 42 (0, 0)) := ⟨_, rfl⟩
   have HB2 : Aside0 (Below W.heap.size W W2) := ⟨by rw [hW2]; exact below_alloc HB.out _⟩
   have HK2 : Aside0 (W2.heap[gs]? = some (.cells #[.int .i64 b, .slice (some ad) ts.length c] 24 (0, 0))) := ⟨by rw [hW2]; exact blk_alloc HK.out _⟩
   have HT2 : Aside0 (W2.heap[gt]? = some (.cells (tkC t) 42 (0, 0))) := ⟨by rw [hW2, ← hgt]; exact blk_new wr _⟩
   rw [← hW2, hgt]
   clear hgt hW2 HB HK s1 x0 x1 x2 x3 x4 x5 x6 x7 x8 x9 x10
   obtain ⟨ad', e, z0, z1, z2, z3, z4, z5, z6, z7, z8, z9, z10⟩ := at_T42 (Kd.C_below HC.out HB2.out) (a : Int) q0 q1
   cases e
   clear z0 z1 z2 z3 z4 z5 z6 z7 z8 z9
   rw [HP.out] at z10
   simp only [Int.toNat_natCast] at z10
   have s1 := blk_cell HK2.out 1
   have y0 : W2.cell? ⟨gt, 0, none⟩ = some (.string t.f0) := blk_cell HT2.out 0
   have y1 : W2.cell? ⟨gt, 1, none⟩ = some (.int .i64 t.f1) := blk_cell HT2.out 1
   have y2 : W2.cell? ⟨gt, 2, none⟩ = some (.int .i64 t.f2) := blk_cell HT2.out 2
   have y3 : W2.cell? ⟨gt, 3, none⟩ = some (.int .i64 t.f3) := blk_cell HT2.out 3
   have y4 : W2.cell? ⟨gt, 4, none⟩ = some (.int .i64 t.f4) := blk_cell HT2.out 4
   have y5 : W2.cell? ⟨gt, 5, none⟩ = some (.int .i64 t.f5) := blk_cell HT2.out 5
   have y6 : W2.cell? ⟨gt, 6, none⟩ = some (.int .i64 t.f6) := blk_cell HT2.out 6
   have y7 : W2.cell? ⟨gt, 7, none⟩ = some (.int .i64 t.f7) := blk_cell HT2.out 7
   have y8 : W2.cell? ⟨gt, 8, none⟩ = some (.int .i64 t.f8) := blk_cell HT2.out 8
   have y9 : W2.cell? ⟨gt, 9, none⟩ = some (.int .i64 t.f9) := blk_cell HT2.out 9
   have y10 : W2.cell? ⟨gt, 10, none⟩ = some (.int .i64 t.f10) := blk_cell HT2.out 10
   have HDT := Aside0.mk (HD.out t (List.mem_of_getElem? HTI.out))
   obtain ⟨ex, hex⟩ : ∃ ex, extraF t = ex := ⟨_, rfl⟩
   have HE : Aside0 (pendulumref14_Extra.f t.f0 t.f1 t.f2 t.f3 t.f4 t.f5 t.f6 t.f7 t.f8 t.f9 t.f10 = some ex) := ⟨by rw [← hex, ← extra_eval HDT.out]; rfl⟩
   have HS : Aside0 (dearL P (ts.drop i) m = dearL P (ts.drop (i + 1)) (if t.f10 ≤ P ∨ t.f9 = 3 then max m ex else m)) := ⟨by
    have h := HTI.out
    rw [List.getElem?_eq_getElem hlt] at h
    rw [List.drop_eq_getElem_cons hlt, dearL, Option.some.inj h, hex]⟩
   have HKE : Aside0 (i = a → t.f10 = P) := ⟨(HNI.out i t HTI.out).1⟩
   have HKI : Aside0 (t.f10 = P → i = a) := ⟨(HNI.out i t HTI.out).2⟩
   obtain ⟨cb, hcb⟩ : ∃ cb, decide ((t.f10 ≤ P ∨ t.f9 = 3) ∧ m < ex) = cb := ⟨_, rfl⟩
   have HCB := Aside0.mk hcb.symm
   have KP : Aside0 (∀ w', Below W2.heap.size W2 w' → (fun w' : World => w'.cell? ⟨gs, 1, none⟩ = some (.slice (some ad) ts.length c) ∧ w'.cell? ⟨(ad.add (a * 11)).block, (ad.add (a * 11)).off + 10, none⟩ = some (.int .i64 P) ∧ w'.cell? ⟨gt, 0, none⟩ = some (.string t.f0) ∧ w'.cell? ⟨gt, 1, none⟩ = some (.int .i64 t.f1) ∧ w'.cell? ⟨gt, 2, none⟩ = some (.int .i64 t.f2) ∧ w'.cell? ⟨gt, 3, none⟩ = some (.int .i64 t.f3) ∧ w'.cell? ⟨gt, 4, none⟩ = some (.int .i64 t.f4) ∧ w'.cell? ⟨gt, 5, none⟩ = some (.int .i64 t.f5) ∧ w'.cell? ⟨gt, 6, none⟩ = some (.int .i64 t.f6) ∧ w'.cell? ⟨gt, 7, none⟩ = some (.int .i64 t.f7) ∧ w'.cell? ⟨gt, 8, none⟩ = some (.int .i64 t.f8) ∧ w'.cell? ⟨gt, 9, none⟩ = some (.int .i64 t.f9) ∧ w'.cell? ⟨gt, 10, none⟩ = some (.int .i64 t.f10)) w') := ⟨fun w' hb => ⟨blk_cell (blk_below HK2.out hb) 1, pw_cell_below hb z10, blk_cell (blk_below HT2.out hb) 0, blk_cell (blk_below HT2.out hb) 1, blk_cell (blk_below HT2.out hb) 2, blk_cell (blk_below HT2.out hb) 3, blk_cell (blk_below HT2.out hb) 4, blk_cell (blk_below HT2.out hb) 5, blk_cell (blk_below HT2.out hb) 6, blk_cell (blk_below HT2.out hb) 7, blk_cell (blk_below HT2.out hb) 8, blk_cell (blk_below HT2.out hb) 9, blk_cell (blk_below HT2.out hb) 10⟩⟩
   clear hex hcb
   go_cut [44] (fun v44 wx => v44 = .bool cb ∧ Aside0 (Below W2.heap.size W2 wx))
   case first => as_aux_lemma =>
    by_cases h0 : i = a
    ·skip
     have e1 : ((i : Int) == (a : Int)) = true := by simp [h0]
     have e2 : (i == a) = true := by simp [h0]
     have e3 : decide (i = a) = true := by simp [h0]
     have e4 : decide ((i : Int) = (a : Int)) = true := by simp [h0]
     have HJ : Aside0 (t.f10 ≤ P ∨ t.f9 = 3) := ⟨.inl (Int.le_of_eq (HKE.out h0))⟩
     clear h0
     refine wp_region_noPanic ?_
     refine wp_region_late [] (fun w' : World => w'.cell? ⟨gs, 1, none⟩ = some (.slice (some ad) ts.length c) ∧ w'.cell? ⟨(ad.add (a * 11)).block, (ad.add (a * 11)).off + 10, none⟩ = some (.int .i64 P) ∧ w'.cell? ⟨gt, 0, none⟩ = some (.string t.f0) ∧ w'.cell? ⟨gt, 1, none⟩ = some (.int .i64 t.f1) ∧ w'.cell? ⟨gt, 2, none⟩ = some (.int .i64 t.f2) ∧ w'.cell? ⟨gt, 3, none⟩ = some (.int .i64 t.f3) ∧ w'.cell? ⟨gt, 4, none⟩ = some (.int .i64 t.f4) ∧ w'.cell? ⟨gt, 5, none⟩ = some (.int .i64 t.f5) ∧ w'.cell? ⟨gt, 6, none⟩ = some (.int .i64 t.f6) ∧ w'.cell? ⟨gt, 7, none⟩ = some (.int .i64 t.f7) ∧ w'.cell? ⟨gt, 8, none⟩ = some (.int .i64 t.f8) ∧ w'.cell? ⟨gt, 9, none⟩ = some (.int .i64 t.f9) ∧ w'.cell? ⟨gt, 10, none⟩ = some (.int .i64 t.f10)) (by kernel_rfl) ?_
     have hs0 := KP.out W2.drew (below_drew (Below.refl _ _))
     refine wpL_takeT (i := 0) (v := ?v0q1) rfl (by kernel_rfl) (by kernel_rfl) (by kernel_rfl) (by kernel_rfl) (fun _ _ _ h => h) (Or.inl ⟨by rfl, ?hy0q1⟩) (fun _ => hs0) ?rest0q1
     case hy0q1 => (intro w hSw; (try dsimp only at hSw); go_simp; (first | done | with_reducible rfl))
     try simp only [Act.put, List.getElem_toArray, List.getElem_cons_zero, List.getElem_cons_succ, List.setIfInBounds_toArray, List.set_cons_zero, List.set_cons_succ]
     refine wpL_takeT (i := 1) (v := ?v1q1) rfl (by kernel_rfl) (by kernel_rfl) (by kernel_rfl) (by kernel_rfl) (fun _ _ _ h => h) (Or.inl ⟨by rfl, ?hy1q1⟩) (fun _ => hs0) ?rest1q1
     case hy1q1 => (intro w hSw; (try dsimp only at hSw); go_simp; (first | done | with_reducible rfl))
     try simp only [Act.put, List.getElem_toArray, List.getElem_cons_zero, List.getElem_cons_succ, List.setIfInBounds_toArray, List.set_cons_zero, List.set_cons_succ]
     refine wpL_takeT (i := 2) (v := ?v2q1) rfl (by kernel_rfl) (by kernel_rfl) (by kernel_rfl) (by kernel_rfl) (fun _ _ _ h => h) (Or.inl ⟨by rfl, ?hy2q1⟩) (fun _ => hs0) ?rest2q1
     case hy2q1 => (intro w hSw; (try dsimp only at hSw); go_simp; (first | done | with_reducible rfl))
     try simp only [Act.put, List.getElem_toArray, List.getElem_cons_zero, List.getElem_cons_succ, List.setIfInBounds_toArray, List.set_cons_zero, List.set_cons_succ]
     refine wpL_takeT (i := 3) (v := ?v3q1) rfl (by kernel_rfl) (by kernel_rfl) (by kernel_rfl) (by kernel_rfl) (fun _ _ _ h => h) (Or.inl ⟨by rfl, ?hy3q1⟩) (fun _ => hs0) ?rest3q1
     case hy3q1 => (intro w hSw; (try dsimp only at hSw); go_simp; (first | done | with_reducible rfl))
     try simp only [Act.put, List.getElem_toArray, List.getElem_cons_zero, List.getElem_cons_succ, List.setIfInBounds_toArray, List.set_cons_zero, List.set_cons_succ]
     refine wpL_takeT (i := 4) (v := undef) rfl (by kernel_rfl) (by kernel_rfl) (by kernel_rfl) (by kernel_rfl) (fun _ _ _ h => h) (Or.inr ⟨by rfl, rfl⟩) (fun _ => hs0) ?rest4q1
     try simp only [Act.put, List.getElem_toArray, List.getElem_cons_zero, List.getElem_cons_succ, List.setIfInBounds_toArray, List.set_cons_zero, List.set_cons_succ]
     refine wpL_takeT (i := 5) (v := undef) rfl (by kernel_rfl) (by kernel_rfl) (by kernel_rfl) (by kernel_rfl) (fun _ _ _ h => h) (Or.inr ⟨by rfl, rfl⟩) (fun _ => hs0) ?rest5q1
     try simp only [Act.put, List.getElem_toArray, List.getElem_cons_zero, List.getElem_cons_succ, List.setIfInBounds_toArray, List.set_cons_zero, List.set_cons_succ]
     refine wpL_takeT (i := 6) (v := undef) rfl (by kernel_rfl) (by kernel_rfl) (by kernel_rfl) (by kernel_rfl) (fun _ _ _ h => h) (Or.inr ⟨by rfl, rfl⟩) (fun _ => hs0) ?rest6q1
     try simp only [Act.put, List.getElem_toArray, List.getElem_cons_zero, List.getElem_cons_succ, List.setIfInBounds_toArray, List.set_cons_zero, List.set_cons_succ]
     refine wpL_takeT (i := 7) (v := undef) rfl (by kernel_rfl) (by kernel_rfl) (by kernel_rfl) (by kernel_rfl) (fun _ _ _ h => h) (Or.inr ⟨by rfl, rfl⟩) (fun _ => hs0) ?rest7q1
     try simp only [Act.put, List.getElem_toArray, List.getElem_cons_zero, List.getElem_cons_succ, List.setIfInBounds_toArray, List.set_cons_zero, List.set_cons_succ]
     refine wpL_takeT (i := 8) (v := undef) rfl (by kernel_rfl) (by kernel_rfl) (by kernel_rfl) (by kernel_rfl) (fun _ _ _ h => h) (Or.inr ⟨by rfl, rfl⟩) (fun _ => hs0) ?rest8q1
     try simp only [Act.put, List.getElem_toArray, List.getElem_cons_zero, List.getElem_cons_succ, List.setIfInBounds_toArray, List.set_cons_zero, List.set_cons_succ]
     refine wpL_takeT (i := 9) (v := undef) rfl (by kernel_rfl) (by kernel_rfl) (by kernel_rfl) (by kernel_rfl) (fun _ _ _ h => h) (Or.inr ⟨by rfl, rfl⟩) (fun _ => hs0) ?rest9q1
     try simp only [Act.put, List.getElem_toArray, List.getElem_cons_zero, List.getElem_cons_succ, List.setIfInBounds_toArray, List.set_cons_zero, List.set_cons_succ]
     refine wpL_takeT (i := 10) (v := undef) rfl (by kernel_rfl) (by kernel_rfl) (by kernel_rfl) (by kernel_rfl) (fun _ _ _ h => h) (Or.inr ⟨by rfl, rfl⟩) (fun _ => hs0) ?rest10q1
     try simp only [Act.put, List.getElem_toArray, List.getElem_cons_zero, List.getElem_cons_succ, List.setIfInBounds_toArray, List.set_cons_zero, List.set_cons_succ]
     refine wpL_takeT (i := 11) (v := undef) rfl (by kernel_rfl) (by kernel_rfl) (by kernel_rfl) (by kernel_rfl) (fun _ _ _ h => h) (Or.inr ⟨by rfl, rfl⟩) (fun _ => hs0) ?rest11q1
     try simp only [Act.put, List.getElem_toArray, List.getElem_cons_zero, List.getElem_cons_succ, List.setIfInBounds_toArray, List.set_cons_zero, List.set_cons_succ]
     refine wpL_takeT (i := 12) (v := undef) rfl (by kernel_rfl) (by kernel_rfl) (by kernel_rfl) (by kernel_rfl) (fun _ _ _ h => h) (Or.inr ⟨by rfl, rfl⟩) (fun _ => hs0) ?rest12q1
     try simp only [Act.put, List.getElem_toArray, List.getElem_cons_zero, List.getElem_cons_succ, List.setIfInBounds_toArray, List.set_cons_zero, List.set_cons_succ]
     refine wpL_takeT (i := 13) (v := ?v13q1) rfl (by kernel_rfl) (by kernel_rfl) (by kernel_rfl) (by kernel_rfl) (fun _ _ _ h => h) (Or.inl ⟨by rfl, ?hy13q1⟩) (fun _ => hs0) ?rest13q1
     case hy13q1 => (intro w hSw; (try dsimp only at hSw); go_simp; (first | done | with_reducible rfl))
     try simp only [Act.put, List.getElem_toArray, List.getElem_cons_zero, List.getElem_cons_succ, List.setIfInBounds_toArray, List.set_cons_zero, List.set_cons_succ]
     refine wpL_takeT (i := 14) (v := ?v14q1) rfl (by kernel_rfl) (by kernel_rfl) (by kernel_rfl) (by kernel_rfl) (fun _ _ _ h => h) (Or.inl ⟨by rfl, ?hy14q1⟩) (fun _ => hs0) ?rest14q1
     case hy14q1 => (intro w hSw; (try dsimp only at hSw); go_simp; (first | done | with_reducible rfl))
     try simp only [Act.put, List.getElem_toArray, List.getElem_cons_zero, List.getElem_cons_succ, List.setIfInBounds_toArray, List.set_cons_zero, List.set_cons_succ]
     refine wpL_takeT (i := 15) (v := undef) rfl (by kernel_rfl) (by kernel_rfl) (by kernel_rfl) (by kernel_rfl) (fun _ _ _ h => h) (Or.inr ⟨by rfl, rfl⟩) (fun _ => hs0) ?rest15q1
     try simp only [Act.put, List.getElem_toArray, List.getElem_cons_zero, List.getElem_cons_succ, List.setIfInBounds_toArray, List.set_cons_zero, List.set_cons_succ]
     refine wpL_takeT (i := 16) (v := undef) rfl (by kernel_rfl) (by kernel_rfl) (by kernel_rfl) (by kernel_rfl) (fun _ _ _ h => h) (Or.inr ⟨by rfl, rfl⟩) (fun _ => hs0) ?rest16q1
     try simp only [Act.put, List.getElem_toArray, List.getElem_cons_zero, List.getElem_cons_succ, List.setIfInBounds_toArray, List.set_cons_zero, List.set_cons_succ]
     refine wpL_takeT (i := 17) (v := undef) rfl (by kernel_rfl) (by kernel_rfl) (by kernel_rfl) (by kernel_rfl) (fun _ _ _ h => h) (Or.inr ⟨by rfl, rfl⟩) (fun _ => hs0) ?rest17q1
     try simp only [Act.put, List.getElem_toArray, List.getElem_cons_zero, List.getElem_cons_succ, List.setIfInBounds_toArray, List.set_cons_zero, List.set_cons_succ]
     refine wpL_takeT (i := 18) (v := ?v18q1) rfl (by kernel_rfl) (by kernel_rfl) (by kernel_rfl) (by kernel_rfl) (fun _ _ _ h => h) (Or.inl ⟨by rfl, ?hy18q1⟩) (fun _ => hs0) ?rest18q1
     case hy18q1 => (intro w hSw; (try dsimp only at hSw); go_simp; (first | done | with_reducible rfl))
     try simp only [Act.put, List.getElem_toArray, List.getElem_cons_zero, List.getElem_cons_succ, List.setIfInBounds_toArray, List.set_cons_zero, List.set_cons_succ]
     refine wpL_takeT (i := 19) (v := ?v19q1) rfl (by kernel_rfl) (by kernel_rfl) (by kernel_rfl) (by kernel_rfl) (fun _ _ _ h => h) (Or.inl ⟨by rfl, ?hy19q1⟩) (fun _ => hs0) ?rest19q1
     case hy19q1 => (intro w hSw; (try dsimp only at hSw); go_simp; (first | done | with_reducible rfl))
     try simp only [Act.put, List.getElem_toArray, List.getElem_cons_zero, List.getElem_cons_succ, List.setIfInBounds_toArray, List.set_cons_zero, List.set_cons_succ]
     refine wpL_take (i := 20) (v := ?v20q1) rfl (by kernel_rfl) (by kernel_rfl) (by kernel_rfl) (by kernel_rfl) (by kernel_rfl) (by kernel_rfl) (fun _ _ _ h => h) (Or.inl ⟨by rfl, ?hy20q1⟩) hs0 ?rest20q1
     case hy20q1 => (intro w hSw; (try dsimp only at hSw); (try obtain ⟨h0, h1, h2, h3, h4, h5, h6, h7, h8, h9, h10, h11, h12⟩ := hSw); go_simp; (first | done | with_reducible rfl))
     try simp only [Act.put, List.getElem_toArray, List.getElem_cons_zero, List.getElem_cons_succ, List.setIfInBounds_toArray, List.set_cons_zero, List.set_cons_succ]
     refine wpL_takeT (i := 22) (v := ?v22q1) rfl (by kernel_rfl) (by kernel_rfl) (by kernel_rfl) (by kernel_rfl) (fun _ _ _ h => h) (Or.inl ⟨by rfl, ?hy22q1⟩) (fun _ => hs0) ?rest22q1
     case hy22q1 => (intro w hSw; (try dsimp only at hSw); go_simp; (first | done | with_reducible rfl))
     try simp only [Act.put, List.getElem_toArray, List.getElem_cons_zero, List.getElem_cons_succ, List.setIfInBounds_toArray, List.set_cons_zero, List.set_cons_succ]
     refine wpL_ready (rs := [21]) (by kernel_rfl) (by simp) (AllL.cons rfl (fun K hK => ?_) AllL.nil)
     have hs0' := hs0
     clear hs0
     go_simp
     refine (pendulumref14_Extra.calls t.f0 t.f1 t.f2 t.f3 t.f4 t.f5 t.f6 t.f7 t.f8 t.f9 t.f10 ex _ HE.out).mono ?_
     rintro e wZ ⟨rfl, hb⟩
     have hbz : Below W2.heap.size W2 wZ := below_step (below_drew (Below.refl _ _)) hb
     have HBB := Aside0.mk hbz
     have hs2 := KP.out wZ hbz
     clear hb hbz hs0'
     go_wp2_with fail
     refine hK.out _ _ hs2 ?_
     clear hK K
     try simp only [Act.put, List.getElem_toArray, List.getElem_cons_zero, List.getElem_cons_succ, List.setIfInBounds_toArray, List.set_cons_zero, List.set_cons_succ]
     refine wpL_ready (rs := [23]) (by kernel_rfl) (by simp) (AllL.cons rfl (fun K hK => ?_) AllL.nil)
     go_simp
     refine hK.out _ _ hs2 ?_
     clear hK K
     try simp only [Act.put, List.getElem_toArray, List.getElem_cons_zero, List.getElem_cons_succ, List.setIfInBounds_toArray, List.set_cons_zero, List.set_cons_succ]
     refine wpL_ready (rs := [24]) (by kernel_rfl) (by simp) (AllL.cons rfl (fun K hK => ?_) AllL.nil)
     go_simp
     refine hK.out _ _ hs2 ?_
     clear hK K
     try simp only [Act.put, List.getElem_toArray, List.getElem_cons_zero, List.getElem_cons_succ, List.setIfInBounds_toArray, List.set_cons_zero, List.set_cons_succ]
     refine wpL_done (by kernel_rfl) (NoPanic.normal ?_) _
     go_wp2_with fail
     go_meet
     exact ⟨by simp [HCB.out, HJ.out], HBB⟩
    ·skip
     have e1 : ((i : Int) == (a : Int)) = false := by simp; omega
     have e2 : (i == a) = false := by simp; omega
     have e3 : decide (i = a) = false := by simp; omega
     have e4 : decide ((i : Int) = (a : Int)) = false := by simp; omega
     by_cases h1 : t.f10 < P
     ·skip
      have d1 : decide (t.f10 < P) = true := decide_eq_true h1
      have HJ : Aside0 (t.f10 ≤ P ∨ t.f9 = 3) := ⟨.inl (Int.le_of_lt h1)⟩
      clear h0 h1
      refine wp_region_noPanic ?_
      refine wp_region_late [] (fun w' : World => w'.cell? ⟨gs, 1, none⟩ = some (.slice (some ad) ts.length c) ∧ w'.cell? ⟨(ad.add (a * 11)).block, (ad.add (a * 11)).off + 10, none⟩ = some (.int .i64 P) ∧ w'.cell? ⟨gt, 0, none⟩ = some (.string t.f0) ∧ w'.cell? ⟨gt, 1, none⟩ = some (.int .i64 t.f1) ∧ w'.cell? ⟨gt, 2, none⟩ = some (.int .i64 t.f2) ∧ w'.cell? ⟨gt, 3, none⟩ = some (.int .i64 t.f3) ∧ w'.cell? ⟨gt, 4, none⟩ = some (.int .i64 t.f4) ∧ w'.cell? ⟨gt, 5, none⟩ = some (.int .i64 t.f5) ∧ w'.cell? ⟨gt, 6, none⟩ = some (.int .i64 t.f6) ∧ w'.cell? ⟨gt, 7, none⟩ = some (.int .i64 t.f7) ∧ w'.cell? ⟨gt, 8, none⟩ = some (.int .i64 t.f8) ∧ w'.cell? ⟨gt, 9, none⟩ = some (.int .i64 t.f9) ∧ w'.cell? ⟨gt, 10, none⟩ = some (.int .i64 t.f10)) (by kernel_rfl) ?_
      have hs0 := KP.out W2.drew (below_drew (Below.refl _ _))
      refine wpL_takeT (i := 0) (v := ?v0q2) rfl (by kernel_rfl) (by kernel_rfl) (by kernel_rfl) (by kernel_rfl) (fun _ _ _ h => h) (Or.inl ⟨by rfl, ?hy0q2⟩) (fun _ => hs0) ?rest0q2
      case hy0q2 => (intro w hSw; (try dsimp only at hSw); go_simp; (first | done | with_reducible rfl))
      try simp only [Act.put, List.getElem_toArray, List.getElem_cons_zero, List.getElem_cons_succ, List.setIfInBounds_toArray, List.set_cons_zero, List.set_cons_succ]
      refine wpL_takeT (i := 1) (v := ?v1q2) rfl (by kernel_rfl) (by kernel_rfl) (by kernel_rfl) (by kernel_rfl) (fun _ _ _ h => h) (Or.inl ⟨by rfl, ?hy1q2⟩) (fun _ => hs0) ?rest1q2
      case hy1q2 => (intro w hSw; (try dsimp only at hSw); go_simp; (first | done | with_reducible rfl))
      try simp only [Act.put, List.getElem_toArray, List.getElem_cons_zero, List.getElem_cons_succ, List.setIfInBounds_toArray, List.set_cons_zero, List.set_cons_succ]
      refine wpL_takeT (i := 2) (v := ?v2q2) rfl (by kernel_rfl) (by kernel_rfl) (by kernel_rfl) (by kernel_rfl) (fun _ _ _ h => h) (Or.inl ⟨by rfl, ?hy2q2⟩) (fun _ => hs0) ?rest2q2
      case hy2q2 => (intro w hSw; (try dsimp only at hSw); go_simp; (first | done | with_reducible rfl))
      try simp only [Act.put, List.getElem_toArray, List.getElem_cons_zero, List.getElem_cons_succ, List.setIfInBounds_toArray, List.set_cons_zero, List.set_cons_succ]
      refine wpL_takeT (i := 3) (v := ?v3q2) rfl (by kernel_rfl) (by kernel_rfl) (by kernel_rfl) (by kernel_rfl) (fun _ _ _ h => h) (Or.inl ⟨by rfl, ?hy3q2⟩) (fun _ => hs0) ?rest3q2
      case hy3q2 => (intro w hSw; (try dsimp only at hSw); go_simp; (first | done | with_reducible rfl))
      try simp only [Act.put, List.getElem_toArray, List.getElem_cons_zero, List.getElem_cons_succ, List.setIfInBounds_toArray, List.set_cons_zero, List.set_cons_succ]
      refine wpL_takeT (i := 4) (v := ?v4q2) rfl (by kernel_rfl) (by kernel_rfl) (by kernel_rfl) (by kernel_rfl) (fun _ _ _ h => h) (Or.inl ⟨by rfl, ?hy4q2⟩) (fun _ => hs0) ?rest4q2
      case hy4q2 => (intro w hSw; (try dsimp only at hSw); go_simp; (first | done | with_reducible rfl))
      try simp only [Act.put, List.getElem_toArray, List.getElem_cons_zero, List.getElem_cons_succ, List.setIfInBounds_toArray, List.set_cons_zero, List.set_cons_succ]
      refine wpL_take (i := 5) (v := ?v5q2) rfl (by kernel_rfl) (by kernel_rfl) (by kernel_rfl) (by kernel_rfl) (by kernel_rfl) (by kernel_rfl) (fun _ _ _ h => h) (Or.inl ⟨by rfl, ?hy5q2⟩) hs0 ?rest5q2
      case hy5q2 => (intro w hSw; (try dsimp only at hSw); (try obtain ⟨h0, h1, h2, h3, h4, h5, h6, h7, h8, h9, h10, h11, h12⟩ := hSw); go_simp; (first | done | with_reducible rfl))
      try simp only [Act.put, List.getElem_toArray, List.getElem_cons_zero, List.getElem_cons_succ, List.setIfInBounds_toArray, List.set_cons_zero, List.set_cons_succ]
      refine wpL_takeT (i := 6) (v := ?v6q2) rfl (by kernel_rfl) (by kernel_rfl) (by kernel_rfl) (by kernel_rfl) (fun _ _ _ h => h) (Or.inl ⟨by rfl, ?hy6q2⟩) (fun _ => hs0) ?rest6q2
      case hy6q2 => (intro w hSw; (try dsimp only at hSw); go_simp; (first | done | with_reducible rfl))
      try simp only [Act.put, List.getElem_toArray, List.getElem_cons_zero, List.getElem_cons_succ, List.setIfInBounds_toArray, List.set_cons_zero, List.set_cons_succ]
      refine wpL_take (i := 7) (v := ?v7q2) rfl (by kernel_rfl) (by kernel_rfl) (by kernel_rfl) (by kernel_rfl) (by kernel_rfl) (by kernel_rfl) (fun _ _ _ h => h) (Or.inl ⟨by rfl, ?hy7q2⟩) hs0 ?rest7q2
      case hy7q2 => (intro w hSw; (try dsimp only at hSw); (try obtain ⟨h0, h1, h2, h3, h4, h5, h6, h7, h8, h9, h10, h11, h12⟩ := hSw); go_simp; (first | done | with_reducible rfl))
      try simp only [Act.put, List.getElem_toArray, List.getElem_cons_zero, List.getElem_cons_succ, List.setIfInBounds_toArray, List.set_cons_zero, List.set_cons_succ]
      refine wpL_takeT (i := 8) (v := ?v8q2) rfl (by kernel_rfl) (by kernel_rfl) (by kernel_rfl) (by kernel_rfl) (fun _ _ _ h => h) (Or.inl ⟨by rfl, ?hy8q2⟩) (fun _ => hs0) ?rest8q2
      case hy8q2 => (intro w hSw; (try dsimp only at hSw); go_simp; (first | done | with_reducible rfl))
      try simp only [Act.put, List.getElem_toArray, List.getElem_cons_zero, List.getElem_cons_succ, List.setIfInBounds_toArray, List.set_cons_zero, List.set_cons_succ]
      refine wpL_takeT (i := 9) (v := ?v9q2) rfl (by kernel_rfl) (by kernel_rfl) (by kernel_rfl) (by kernel_rfl) (fun _ _ _ h => h) (Or.inl ⟨by rfl, ?hy9q2⟩) (fun _ => hs0) ?rest9q2
      case hy9q2 => (intro w hSw; (try dsimp only at hSw); go_simp; (first | done | with_reducible rfl))
      try simp only [Act.put, List.getElem_toArray, List.getElem_cons_zero, List.getElem_cons_succ, List.setIfInBounds_toArray, List.set_cons_zero, List.set_cons_succ]
      refine wpL_takeT (i := 10) (v := ?v10q2) rfl (by kernel_rfl) (by kernel_rfl) (by kernel_rfl) (by kernel_rfl) (fun _ _ _ h => h) (Or.inl ⟨by rfl, ?hy10q2⟩) (fun _ => hs0) ?rest10q2
      case hy10q2 => (intro w hSw; (try dsimp only at hSw); go_simp; (first | done | with_reducible rfl))
      try simp only [Act.put, List.getElem_toArray, List.getElem_cons_zero, List.getElem_cons_succ, List.setIfInBounds_toArray, List.set_cons_zero, List.set_cons_succ]
      refine wpL_take (i := 11) (v := ?v11q2) rfl (by kernel_rfl) (by kernel_rfl) (by kernel_rfl) (by kernel_rfl) (by kernel_rfl) (by kernel_rfl) (fun _ _ _ h => h) (Or.inl ⟨by rfl, ?hy11q2⟩) hs0 ?rest11q2
      case hy11q2 => (intro w hSw; (try dsimp only at hSw); (try obtain ⟨h0, h1, h2, h3, h4, h5, h6, h7, h8, h9, h10, h11, h12⟩ := hSw); go_simp; (first | done | with_reducible rfl))
      try simp only [Act.put, List.getElem_toArray, List.getElem_cons_zero, List.getElem_cons_succ, List.setIfInBounds_toArray, List.set_cons_zero, List.set_cons_succ]
      refine wpL_takeT (i := 12) (v := ?v12q2) rfl (by kernel_rfl) (by kernel_rfl) (by kernel_rfl) (by kernel_rfl) (fun _ _ _ h => h) (Or.inl ⟨by rfl, ?hy12q2⟩) (fun _ => hs0) ?rest12q2
      case hy12q2 => (intro w hSw; (try dsimp only at hSw); go_simp; (first | done | with_reducible rfl))
      try simp only [Act.put, List.getElem_toArray, List.getElem_cons_zero, List.getElem_cons_succ, List.setIfInBounds_toArray, List.set_cons_zero, List.set_cons_succ]
      refine wpL_takeT (i := 13) (v := ?v13q2) rfl (by kernel_rfl) (by kernel_rfl) (by kernel_rfl) (by kernel_rfl) (fun _ _ _ h => h) (Or.inl ⟨by rfl, ?hy13q2⟩) (fun _ => hs0) ?rest13q2
      case hy13q2 => (intro w hSw; (try dsimp only at hSw); go_simp; (first | done | with_reducible rfl))
      try simp only [Act.put, List.getElem_toArray, List.getElem_cons_zero, List.getElem_cons_succ, List.setIfInBounds_toArray, List.set_cons_zero, List.set_cons_succ]
      refine wpL_takeT (i := 14) (v := ?v14q2) rfl (by kernel_rfl) (by kernel_rfl) (by kernel_rfl) (by kernel_rfl) (fun _ _ _ h => h) (Or.inl ⟨by rfl, ?hy14q2⟩) (fun _ => hs0) ?rest14q2
      case hy14q2 => (intro w hSw; (try dsimp only at hSw); go_simp; (first | done | with_reducible rfl))
      try simp only [Act.put, List.getElem_toArray, List.getElem_cons_zero, List.getElem_cons_succ, List.setIfInBounds_toArray, List.set_cons_zero, List.set_cons_succ]
      refine wpL_takeT (i := 15) (v := undef) rfl (by kernel_rfl) (by kernel_rfl) (by kernel_rfl) (by kernel_rfl) (fun _ _ _ h => h) (Or.inr ⟨by rfl, rfl⟩) (fun _ => hs0) ?rest15q2
      try simp only [Act.put, List.getElem_toArray, List.getElem_cons_zero, List.getElem_cons_succ, List.setIfInBounds_toArray, List.set_cons_zero, List.set_cons_succ]
      refine wpL_takeT (i := 16) (v := undef) rfl (by kernel_rfl) (by kernel_rfl) (by kernel_rfl) (by kernel_rfl) (fun _ _ _ h => h) (Or.inr ⟨by rfl, rfl⟩) (fun _ => hs0) ?rest16q2
      try simp only [Act.put, List.getElem_toArray, List.getElem_cons_zero, List.getElem_cons_succ, List.setIfInBounds_toArray, List.set_cons_zero, List.set_cons_succ]
      refine wpL_takeT (i := 17) (v := undef) rfl (by kernel_rfl) (by kernel_rfl) (by kernel_rfl) (by kernel_rfl) (fun _ _ _ h => h) (Or.inr ⟨by rfl, rfl⟩) (fun _ => hs0) ?rest17q2
      try simp only [Act.put, List.getElem_toArray, List.getElem_cons_zero, List.getElem_cons_succ, List.setIfInBounds_toArray, List.set_cons_zero, List.set_cons_succ]
      refine wpL_takeT (i := 18) (v := ?v18q2) rfl (by kernel_rfl) (by kernel_rfl) (by kernel_rfl) (by kernel_rfl) (fun _ _ _ h => h) (Or.inl ⟨by rfl, ?hy18q2⟩) (fun _ => hs0) ?rest18q2
      case hy18q2 => (intro w hSw; (try dsimp only at hSw); go_simp; (first | done | with_reducible rfl))
      try simp only [Act.put, List.getElem_toArray, List.getElem_cons_zero, List.getElem_cons_succ, List.setIfInBounds_toArray, List.set_cons_zero, List.set_cons_succ]
      refine wpL_takeT (i := 19) (v := ?v19q2) rfl (by kernel_rfl) (by kernel_rfl) (by kernel_rfl) (by kernel_rfl) (fun _ _ _ h => h) (Or.inl ⟨by rfl, ?hy19q2⟩) (fun _ => hs0) ?rest19q2
      case hy19q2 => (intro w hSw; (try dsimp only at hSw); go_simp; (first | done | with_reducible rfl))
      try simp only [Act.put, List.getElem_toArray, List.getElem_cons_zero, List.getElem_cons_succ, List.setIfInBounds_toArray, List.set_cons_zero, List.set_cons_succ]
      refine wpL_take (i := 20) (v := ?v20q2) rfl (by kernel_rfl) (by kernel_rfl) (by kernel_rfl) (by kernel_rfl) (by kernel_rfl) (by kernel_rfl) (fun _ _ _ h => h) (Or.inl ⟨by rfl, ?hy20q2⟩) hs0 ?rest20q2
      case hy20q2 => (intro w hSw; (try dsimp only at hSw); (try obtain ⟨h0, h1, h2, h3, h4, h5, h6, h7, h8, h9, h10, h11, h12⟩ := hSw); go_simp; (first | done | with_reducible rfl))
      try simp only [Act.put, List.getElem_toArray, List.getElem_cons_zero, List.getElem_cons_succ, List.setIfInBounds_toArray, List.set_cons_zero, List.set_cons_succ]
      refine wpL_takeT (i := 22) (v := ?v22q2) rfl (by kernel_rfl) (by kernel_rfl) (by kernel_rfl) (by kernel_rfl) (fun _ _ _ h => h) (Or.inl ⟨by rfl, ?hy22q2⟩) (fun _ => hs0) ?rest22q2
      case hy22q2 => (intro w hSw; (try dsimp only at hSw); go_simp; (first | done | with_reducible rfl))
      try simp only [Act.put, List.getElem_toArray, List.getElem_cons_zero, List.getElem_cons_succ, List.setIfInBounds_toArray, List.set_cons_zero, List.set_cons_succ]
      refine wpL_ready (rs := [21]) (by kernel_rfl) (by simp) (AllL.cons rfl (fun K hK => ?_) AllL.nil)
      have hs0' := hs0
      clear hs0
      go_simp
      refine (pendulumref14_Extra.calls t.f0 t.f1 t.f2 t.f3 t.f4 t.f5 t.f6 t.f7 t.f8 t.f9 t.f10 ex _ HE.out).mono ?_
      rintro e wZ ⟨rfl, hb⟩
      have hbz : Below W2.heap.size W2 wZ := below_step (below_drew (Below.refl _ _)) hb
      have HBB := Aside0.mk hbz
      have hs2 := KP.out wZ hbz
      clear hb hbz hs0'
      go_wp2_with fail
      refine hK.out _ _ hs2 ?_
      clear hK K
      try simp only [Act.put, List.getElem_toArray, List.getElem_cons_zero, List.getElem_cons_succ, List.setIfInBounds_toArray, List.set_cons_zero, List.set_cons_succ]
      refine wpL_ready (rs := [23]) (by kernel_rfl) (by simp) (AllL.cons rfl (fun K hK => ?_) AllL.nil)
      go_simp
      refine hK.out _ _ hs2 ?_
      clear hK K
      try simp only [Act.put, List.getElem_toArray, List.getElem_cons_zero, List.getElem_cons_succ, List.setIfInBounds_toArray, List.set_cons_zero, List.set_cons_succ]
      refine wpL_ready (rs := [24]) (by kernel_rfl) (by simp) (AllL.cons rfl (fun K hK => ?_) AllL.nil)
      go_simp
      refine hK.out _ _ hs2 ?_
      clear hK K
      try simp only [Act.put, List.getElem_toArray, List.getElem_cons_zero, List.getElem_cons_succ, List.setIfInBounds_toArray, List.set_cons_zero, List.set_cons_succ]
      refine wpL_done (by kernel_rfl) (NoPanic.normal ?_) _
      go_wp2_with fail
      go_meet
      exact ⟨by simp [HCB.out, HJ.out], HBB⟩
     ·skip
      have d1 : decide (t.f10 < P) = false := decide_eq_false h1
      by_cases h2 : t.f9 = 3
      ·skip
       have d2 : decide (t.f9 = 3) = true := decide_eq_true h2
       have d3 : (t.f9 == 3) = true := by simpa using h2
       have HJ : Aside0 (t.f10 ≤ P ∨ t.f9 = 3) := ⟨.inr h2⟩
       clear h0 h1 h2
       refine wp_region_noPanic ?_
       refine wp_region_late [] (fun w' : World => w'.cell? ⟨gs, 1, none⟩ = some (.slice (some ad) ts.length c) ∧ w'.cell? ⟨(ad.add (a * 11)).block, (ad.add (a * 11)).off + 10, none⟩ = some (.int .i64 P) ∧ w'.cell? ⟨gt, 0, none⟩ = some (.string t.f0) ∧ w'.cell? ⟨gt, 1, none⟩ = some (.int .i64 t.f1) ∧ w'.cell? ⟨gt, 2, none⟩ = some (.int .i64 t.f2) ∧ w'.cell? ⟨gt, 3, none⟩ = some (.int .i64 t.f3) ∧ w'.cell? ⟨gt, 4, none⟩ = some (.int .i64 t.f4) ∧ w'.cell? ⟨gt, 5, none⟩ = some (.int .i64 t.f5) ∧ w'.cell? ⟨gt, 6, none⟩ = some (.int .i64 t.f6) ∧ w'.cell? ⟨gt, 7, none⟩ = some (.int .i64 t.f7) ∧ w'.cell? ⟨gt, 8, none⟩ = some (.int .i64 t.f8) ∧ w'.cell? ⟨gt, 9, none⟩ = some (.int .i64 t.f9) ∧ w'.cell? ⟨gt, 10, none⟩ = some (.int .i64 t.f10)) (by kernel_rfl) ?_
       have hs0 := KP.out W2.drew (below_drew (Below.refl _ _))
       refine wpL_takeT (i := 0) (v := ?v0q3) rfl (by kernel_rfl) (by kernel_rfl) (by kernel_rfl) (by kernel_rfl) (fun _ _ _ h => h) (Or.inl ⟨by rfl, ?hy0q3⟩) (fun _ => hs0) ?rest0q3
       case hy0q3 => (intro w hSw; (try dsimp only at hSw); go_simp; (first | done | with_reducible rfl))
       try simp only [Act.put, List.getElem_toArray, List.getElem_cons_zero, List.getElem_cons_succ, List.setIfInBounds_toArray, List.set_cons_zero, List.set_cons_succ]
       refine wpL_takeT (i := 1) (v := ?v1q3) rfl (by kernel_rfl) (by kernel_rfl) (by kernel_rfl) (by kernel_rfl) (fun _ _ _ h => h) (Or.inl ⟨by rfl, ?hy1q3⟩) (fun _ => hs0) ?rest1q3
       case hy1q3 => (intro w hSw; (try dsimp only at hSw); go_simp; (first | done | with_reducible rfl))
       try simp only [Act.put, List.getElem_toArray, List.getElem_cons_zero, List.getElem_cons_succ, List.setIfInBounds_toArray, List.set_cons_zero, List.set_cons_succ]
       refine wpL_takeT (i := 2) (v := ?v2q3) rfl (by kernel_rfl) (by kernel_rfl) (by kernel_rfl) (by kernel_rfl) (fun _ _ _ h => h) (Or.inl ⟨by rfl, ?hy2q3⟩) (fun _ => hs0) ?rest2q3
       case hy2q3 => (intro w hSw; (try dsimp only at hSw); go_simp; (first | done | with_reducible rfl))
       try simp only [Act.put, List.getElem_toArray, List.getElem_cons_zero, List.getElem_cons_succ, List.setIfInBounds_toArray, List.set_cons_zero, List.set_cons_succ]
       refine wpL_takeT (i := 3) (v := ?v3q3) rfl (by kernel_rfl) (by kernel_rfl) (by kernel_rfl) (by kernel_rfl) (fun _ _ _ h => h) (Or.inl ⟨by rfl, ?hy3q3⟩) (fun _ => hs0) ?rest3q3
       case hy3q3 => (intro w hSw; (try dsimp only at hSw); go_simp; (first | done | with_reducible rfl))
       try simp only [Act.put, List.getElem_toArray, List.getElem_cons_zero, List.getElem_cons_succ, List.setIfInBounds_toArray, List.set_cons_zero, List.set_cons_succ]
       refine wpL_takeT (i := 4) (v := ?v4q3) rfl (by kernel_rfl) (by kernel_rfl) (by kernel_rfl) (by kernel_rfl) (fun _ _ _ h => h) (Or.inl ⟨by rfl, ?hy4q3⟩) (fun _ => hs0) ?rest4q3
       case hy4q3 => (intro w hSw; (try dsimp only at hSw); go_simp; (first | done | with_reducible rfl))
       try simp only [Act.put, List.getElem_toArray, List.getElem_cons_zero, List.getElem_cons_succ, List.setIfInBounds_toArray, List.set_cons_zero, List.set_cons_succ]
       refine wpL_take (i := 5) (v := ?v5q3) rfl (by kernel_rfl) (by kernel_rfl) (by kernel_rfl) (by kernel_rfl) (by kernel_rfl) (by kernel_rfl) (fun _ _ _ h => h) (Or.inl ⟨by rfl, ?hy5q3⟩) hs0 ?rest5q3
       case hy5q3 => (intro w hSw; (try dsimp only at hSw); (try obtain ⟨h0, h1, h2, h3, h4, h5, h6, h7, h8, h9, h10, h11, h12⟩ := hSw); go_simp; (first | done | with_reducible rfl))
       try simp only [Act.put, List.getElem_toArray, List.getElem_cons_zero, List.getElem_cons_succ, List.setIfInBounds_toArray, List.set_cons_zero, List.set_cons_succ]
       refine wpL_takeT (i := 6) (v := ?v6q3) rfl (by kernel_rfl) (by kernel_rfl) (by kernel_rfl) (by kernel_rfl) (fun _ _ _ h => h) (Or.inl ⟨by rfl, ?hy6q3⟩) (fun _ => hs0) ?rest6q3
       case hy6q3 => (intro w hSw; (try dsimp only at hSw); go_simp; (first | done | with_reducible rfl))
       try simp only [Act.put, List.getElem_toArray, List.getElem_cons_zero, List.getElem_cons_succ, List.setIfInBounds_toArray, List.set_cons_zero, List.set_cons_succ]
       refine wpL_take (i := 7) (v := ?v7q3) rfl (by kernel_rfl) (by kernel_rfl) (by kernel_rfl) (by kernel_rfl) (by kernel_rfl) (by kernel_rfl) (fun _ _ _ h => h) (Or.inl ⟨by rfl, ?hy7q3⟩) hs0 ?rest7q3
       case hy7q3 => (intro w hSw; (try dsimp only at hSw); (try obtain ⟨h0, h1, h2, h3, h4, h5, h6, h7, h8, h9, h10, h11, h12⟩ := hSw); go_simp; (first | done | with_reducible rfl))
       try simp only [Act.put, List.getElem_toArray, List.getElem_cons_zero, List.getElem_cons_succ, List.setIfInBounds_toArray, List.set_cons_zero, List.set_cons_succ]
       refine wpL_takeT (i := 8) (v := ?v8q3) rfl (by kernel_rfl) (by kernel_rfl) (by kernel_rfl) (by kernel_rfl) (fun _ _ _ h => h) (Or.inl ⟨by rfl, ?hy8q3⟩) (fun _ => hs0) ?rest8q3
       case hy8q3 => (intro w hSw; (try dsimp only at hSw); go_simp; (first | done | with_reducible rfl))
       try simp only [Act.put, List.getElem_toArray, List.getElem_cons_zero, List.getElem_cons_succ, List.setIfInBounds_toArray, List.set_cons_zero, List.set_cons_succ]
       refine wpL_takeT (i := 9) (v := ?v9q3) rfl (by kernel_rfl) (by kernel_rfl) (by kernel_rfl) (by kernel_rfl) (fun _ _ _ h => h) (Or.inl ⟨by rfl, ?hy9q3⟩) (fun _ => hs0) ?rest9q3
       case hy9q3 => (intro w hSw; (try dsimp only at hSw); go_simp; (first | done | with_reducible rfl))
       try simp only [Act.put, List.getElem_toArray, List.getElem_cons_zero, List.getElem_cons_succ, List.setIfInBounds_toArray, List.set_cons_zero, List.set_cons_succ]
       refine wpL_takeT (i := 10) (v := ?v10q3) rfl (by kernel_rfl) (by kernel_rfl) (by kernel_rfl) (by kernel_rfl) (fun _ _ _ h => h) (Or.inl ⟨by rfl, ?hy10q3⟩) (fun _ => hs0) ?rest10q3
       case hy10q3 => (intro w hSw; (try dsimp only at hSw); go_simp; (first | done | with_reducible rfl))
       try simp only [Act.put, List.getElem_toArray, List.getElem_cons_zero, List.getElem_cons_succ, List.setIfInBounds_toArray, List.set_cons_zero, List.set_cons_succ]
       refine wpL_take (i := 11) (v := ?v11q3) rfl (by kernel_rfl) (by kernel_rfl) (by kernel_rfl) (by kernel_rfl) (by kernel_rfl) (by kernel_rfl) (fun _ _ _ h => h) (Or.inl ⟨by rfl, ?hy11q3⟩) hs0 ?rest11q3
       case hy11q3 => (intro w hSw; (try dsimp only at hSw); (try obtain ⟨h0, h1, h2, h3, h4, h5, h6, h7, h8, h9, h10, h11, h12⟩ := hSw); go_simp; (first | done | with_reducible rfl))
       try simp only [Act.put, List.getElem_toArray, List.getElem_cons_zero, List.getElem_cons_succ, List.setIfInBounds_toArray, List.set_cons_zero, List.set_cons_succ]
       refine wpL_takeT (i := 12) (v := ?v12q3) rfl (by kernel_rfl) (by kernel_rfl) (by kernel_rfl) (by kernel_rfl) (fun _ _ _ h => h) (Or.inl ⟨by rfl, ?hy12q3⟩) (fun _ => hs0) ?rest12q3
       case hy12q3 => (intro w hSw; (try dsimp only at hSw); go_simp; (first | done | with_reducible rfl))
       try simp only [Act.put, List.getElem_toArray, List.getElem_cons_zero, List.getElem_cons_succ, List.setIfInBounds_toArray, List.set_cons_zero, List.set_cons_succ]
       refine wpL_takeT (i := 13) (v := ?v13q3) rfl (by kernel_rfl) (by kernel_rfl) (by kernel_rfl) (by kernel_rfl) (fun _ _ _ h => h) (Or.inl ⟨by rfl, ?hy13q3⟩) (fun _ => hs0) ?rest13q3
       case hy13q3 => (intro w hSw; (try dsimp only at hSw); go_simp; (first | done | with_reducible rfl))
       try simp only [Act.put, List.getElem_toArray, List.getElem_cons_zero, List.getElem_cons_succ, List.setIfInBounds_toArray, List.set_cons_zero, List.set_cons_succ]
       refine wpL_takeT (i := 14) (v := ?v14q3) rfl (by kernel_rfl) (by kernel_rfl) (by kernel_rfl) (by kernel_rfl) (fun _ _ _ h => h) (Or.inl ⟨by rfl, ?hy14q3⟩) (fun _ => hs0) ?rest14q3
       case hy14q3 => (intro w hSw; (try dsimp only at hSw); go_simp; (first | done | with_reducible rfl))
       try simp only [Act.put, List.getElem_toArray, List.getElem_cons_zero, List.getElem_cons_succ, List.setIfInBounds_toArray, List.set_cons_zero, List.set_cons_succ]
       refine wpL_takeT (i := 15) (v := ?v15q3) rfl (by kernel_rfl) (by kernel_rfl) (by kernel_rfl) (by kernel_rfl) (fun _ _ _ h => h) (Or.inl ⟨by rfl, ?hy15q3⟩) (fun _ => hs0) ?rest15q3
       case hy15q3 => (intro w hSw; (try dsimp only at hSw); go_simp; (first | done | with_reducible rfl))
       try simp only [Act.put, List.getElem_toArray, List.getElem_cons_zero, List.getElem_cons_succ, List.setIfInBounds_toArray, List.set_cons_zero, List.set_cons_succ]
       refine wpL_take (i := 16) (v := ?v16q3) rfl (by kernel_rfl) (by kernel_rfl) (by kernel_rfl) (by kernel_rfl) (by kernel_rfl) (by kernel_rfl) (fun _ _ _ h => h) (Or.inl ⟨by rfl, ?hy16q3⟩) hs0 ?rest16q3
       case hy16q3 => (intro w hSw; (try dsimp only at hSw); (try obtain ⟨h0, h1, h2, h3, h4, h5, h6, h7, h8, h9, h10, h11, h12⟩ := hSw); go_simp; (first | done | with_reducible rfl))
       try simp only [Act.put, List.getElem_toArray, List.getElem_cons_zero, List.getElem_cons_succ, List.setIfInBounds_toArray, List.set_cons_zero, List.set_cons_succ]
       refine wpL_takeT (i := 17) (v := ?v17q3) rfl (by kernel_rfl) (by kernel_rfl) (by kernel_rfl) (by kernel_rfl) (fun _ _ _ h => h) (Or.inl ⟨by rfl, ?hy17q3⟩) (fun _ => hs0) ?rest17q3
       case hy17q3 => (intro w hSw; (try dsimp only at hSw); go_simp; (first | done | with_reducible rfl))
       try simp only [Act.put, List.getElem_toArray, List.getElem_cons_zero, List.getElem_cons_succ, List.setIfInBounds_toArray, List.set_cons_zero, List.set_cons_succ]
       refine wpL_takeT (i := 18) (v := ?v18q3) rfl (by kernel_rfl) (by kernel_rfl) (by kernel_rfl) (by kernel_rfl) (fun _ _ _ h => h) (Or.inl ⟨by rfl, ?hy18q3⟩) (fun _ => hs0) ?rest18q3
       case hy18q3 => (intro w hSw; (try dsimp only at hSw); go_simp; (first | done | with_reducible rfl))
       try simp only [Act.put, List.getElem_toArray, List.getElem_cons_zero, List.getElem_cons_succ, List.setIfInBounds_toArray, List.set_cons_zero, List.set_cons_succ]
       refine wpL_takeT (i := 19) (v := ?v19q3) rfl (by kernel_rfl) (by kernel_rfl) (by kernel_rfl) (by kernel_rfl) (fun _ _ _ h => h) (Or.inl ⟨by rfl, ?hy19q3⟩) (fun _ => hs0) ?rest19q3
       case hy19q3 => (intro w hSw; (try dsimp only at hSw); go_simp; (first | done | with_reducible rfl))
       try simp only [Act.put, List.getElem_toArray, List.getElem_cons_zero, List.getElem_cons_succ, List.setIfInBounds_toArray, List.set_cons_zero, List.set_cons_succ]
       refine wpL_take (i := 20) (v := ?v20q3) rfl (by kernel_rfl) (by kernel_rfl) (by kernel_rfl) (by kernel_rfl) (by kernel_rfl) (by kernel_rfl) (fun _ _ _ h => h) (Or.inl ⟨by rfl, ?hy20q3⟩) hs0 ?rest20q3
       case hy20q3 => (intro w hSw; (try dsimp only at hSw); (try obtain ⟨h0, h1, h2, h3, h4, h5, h6, h7, h8, h9, h10, h11, h12⟩ := hSw); go_simp; (first | done | with_reducible rfl))
       try simp only [Act.put, List.getElem_toArray, List.getElem_cons_zero, List.getElem_cons_succ, List.setIfInBounds_toArray, List.set_cons_zero, List.set_cons_succ]
       refine wpL_takeT (i := 22) (v := ?v22q3) rfl (by kernel_rfl) (by kernel_rfl) (by kernel_rfl) (by kernel_rfl) (fun _ _ _ h => h) (Or.inl ⟨by rfl, ?hy22q3⟩) (fun _ => hs0) ?rest22q3
       case hy22q3 => (intro w hSw; (try dsimp only at hSw); go_simp; (first | done | with_reducible rfl))
       try simp only [Act.put, List.getElem_toArray, List.getElem_cons_zero, List.getElem_cons_succ, List.setIfInBounds_toArray, List.set_cons_zero, List.set_cons_succ]
       refine wpL_ready (rs := [21]) (by kernel_rfl) (by simp) (AllL.cons rfl (fun K hK => ?_) AllL.nil)
       have hs0' := hs0
       clear hs0
       go_simp
       refine (pendulumref14_Extra.calls t.f0 t.f1 t.f2 t.f3 t.f4 t.f5 t.f6 t.f7 t.f8 t.f9 t.f10 ex _ HE.out).mono ?_
       rintro e wZ ⟨rfl, hb⟩
       have hbz : Below W2.heap.size W2 wZ := below_step (below_drew (Below.refl _ _)) hb
       have HBB := Aside0.mk hbz
       have hs2 := KP.out wZ hbz
       clear hb hbz hs0'
       go_wp2_with fail
       refine hK.out _ _ hs2 ?_
       clear hK K
       try simp only [Act.put, List.getElem_toArray, List.getElem_cons_zero, List.getElem_cons_succ, List.setIfInBounds_toArray, List.set_cons_zero, List.set_cons_succ]
       refine wpL_ready (rs := [23]) (by kernel_rfl) (by simp) (AllL.cons rfl (fun K hK => ?_) AllL.nil)
       go_simp
       refine hK.out _ _ hs2 ?_
       clear hK K
       try simp only [Act.put, List.getElem_toArray, List.getElem_cons_zero, List.getElem_cons_succ, List.setIfInBounds_toArray, List.set_cons_zero, List.set_cons_succ]
       refine wpL_ready (rs := [24]) (by kernel_rfl) (by simp) (AllL.cons rfl (fun K hK => ?_) AllL.nil)
       go_simp
       refine hK.out _ _ hs2 ?_
       clear hK K
       try simp only [Act.put, List.getElem_toArray, List.getElem_cons_zero, List.getElem_cons_succ, List.setIfInBounds_toArray, List.set_cons_zero, List.set_cons_succ]
       refine wpL_done (by kernel_rfl) (NoPanic.normal ?_) _
       go_wp2_with fail
       go_meet
       exact ⟨by simp [HCB.out, HJ.out], HBB⟩
      ·skip
       have d2 : decide (t.f9 = 3) = false := decide_eq_false h2
       have d3 : (t.f9 == 3) = false := by simpa using h2
       have HJ : Aside0 (¬ (t.f10 ≤ P ∨ t.f9 = 3)) := ⟨fun h => by rcases h with h | h; exact h0 (HKI.out (by omega)); exact h2 h⟩
       clear h0 h1 h2
       go_wp2_with fail
       go_quiet (fail)
       go_wp2_with fail
       go_meet
       exact ⟨by simp [HCB.out, HJ.out], ⟨pw_below_drewN (Below.refl _ _) _⟩⟩
   case rest =>
    obtain ⟨rfl, HBX⟩ := hcut
    clear s1 z10 y0 y1 y2 y3 y4 y5 y6 y7 y8 y9 y10
    have HB3 := Aside0.mk (below_step HB2.out HBX.out)
    have HK3 := Aside0.mk (blk_below HK2.out HBX.out)
    have HT3 := Aside0.mk (blk_below HT2.out HBX.out)
    clear HB2 HK2 HT2 HBX KP
    cases cb with
    | true =>
     have HCC : Aside0 ((t.f10 ≤ P ∨ t.f9 = 3) ∧ m < ex) := ⟨of_decide_eq_true HCB.out.symm⟩
     have y0 : wc.cell? ⟨gt, 0, none⟩ = some (.string t.f0) := blk_cell HT3.out 0
     have y1 : wc.cell? ⟨gt, 1, none⟩ = some (.int .i64 t.f1) := blk_cell HT3.out 1
     have y2 : wc.cell? ⟨gt, 2, none⟩ = some (.int .i64 t.f2) := blk_cell HT3.out 2
     have y3 : wc.cell? ⟨gt, 3, none⟩ = some (.int .i64 t.f3) := blk_cell HT3.out 3
     have y4 : wc.cell? ⟨gt, 4, none⟩ = some (.int .i64 t.f4) := blk_cell HT3.out 4
     have y5 : wc.cell? ⟨gt, 5, none⟩ = some (.int .i64 t.f5) := blk_cell HT3.out 5
     have y6 : wc.cell? ⟨gt, 6, none⟩ = some (.int .i64 t.f6) := blk_cell HT3.out 6
     have y7 : wc.cell? ⟨gt, 7, none⟩ = some (.int .i64 t.f7) := blk_cell HT3.out 7
     have y8 : wc.cell? ⟨gt, 8, none⟩ = some (.int .i64 t.f8) := blk_cell HT3.out 8
     have y9 : wc.cell? ⟨gt, 9, none⟩ = some (.int .i64 t.f9) := blk_cell HT3.out 9
     have y10 : wc.cell? ⟨gt, 10, none⟩ = some (.int .i64 t.f10) := blk_cell HT3.out 10
     go_wp2_with fail
     refine (pendulumref14_Extra.calls t.f0 t.f1 t.f2 t.f3 t.f4 t.f5 t.f6 t.f7 t.f8 t.f9 t.f10 ex _ HE.out).mono ?_
     rintro e wY ⟨rfl, hb⟩
     have HB4 := Aside0.mk (below_step HB3.out hb)
     have HK4 := Aside0.mk (blk_below HK3.out hb)
     clear hb HB3 HK3 HT3 y0 y1 y2 y3 y4 y5 y6 y7 y8 y9 y10
     go_wp2_with fail
     go_roundg (ts.length - (i + 1))
     case measure => omega
     case rel => exact ⟨i + 1, ex, by first | rfl | simp, by first | rfl | simp, by omega, ⟨by have h := HCC.out; rw [← HF.out, HS.out, if_pos h.1, Int.max_eq_right (by omega)]⟩, HB4, HK4⟩
    | false =>
     have HCC : Aside0 (¬ ((t.f10 ≤ P ∨ t.f9 = 3) ∧ m < ex)) := ⟨of_decide_eq_false HCB.out.symm⟩
     go_wp2_with fail
     go_roundg (ts.length - (i + 1))
     case measure => omega
     case rel =>
      refine ⟨i + 1, m, by first | rfl | simp, by first | rfl | simp, by omega, ⟨?_⟩, HB3, HK3⟩
      have h := HCC.out
      rw [← HF.out, HS.out]
      by_cases hc : t.f10 ≤ P ∨ t.f9 = 3
      ·rw [if_pos hc, Int.max_eq_left (by by_cases h5 : m < ex; exact absurd ⟨hc, h5⟩ h; omega)]
      ·rw [if_neg hc]
  ·have hd : decide ((i : Int) < (ts.length : Int)) = false := by simp; omega
   go_wp2_with fail
   go_ret
   have hm : dearL P ts 0 = m := by rw [← HF.out, List.drop_of_length_le (by omega), dearL]
   exact ⟨by rw [hm]; rfl, HB.out⟩
theorem pendulumref19_Dear.calls (a0_0 : Int) (A0_1 : Option Addr) (c0_1 : Nat) (l0_1 : List TK) (a1 : Int) (r : Int) (w : World) (hr0_1 : Kd.C k42 w A0_1 l0_1.length l0_1) (hc0_1 : l0_1.length ≤ c0_1) (h : pendulumref19_Dear.f a0_0 l0_1 a1 = some r) :
  Calls Tryd.prog 48 #[.agg #[.int .i64 a0_0, .slice A0_1 l0_1.length c0_1], .int .i64 a1] w fun e w' => e = .returned (.int .i64 r) ∧ Below w.heap.size w w' := by
 unfold pendulumref19_Dear.f at h
 split at h
 ·rename_i hh
  obtain ⟨h1, h0, h2, h3, h4⟩ := hh
  obtain ⟨a, rfl⟩ : ∃ a : Nat, a1 = (a : Int) := ⟨a1.toNat, by omega⟩
  have e := Option.some.inj h
  rw [← e]
  exact ref_dear a0_0 A0_1 c0_1 l0_1 a w hr0_1 hc0_1 h1 h0 (by omega) h4
 ·cases h
end Go.Proofs.YtjknaokhcbjbhaaDoor.Q
