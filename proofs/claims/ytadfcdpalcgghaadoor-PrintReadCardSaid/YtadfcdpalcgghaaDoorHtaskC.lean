-- Why a set isn't right, as the program answers it: walked by hand.
-- NEEDS pendulum/task.in pendulum/index.Named
import Derived.Test.YtadfcdpalcgghaaDoorM0
import Derived.Test.YtadfcdpalcgghaaDoorQ2
import Derived.Test.YtadfcdpalcgghaaDoorHtaskB
import Derived.Deep.RegionHeld3
namespace Go.Proofs.YtadfcdpalcgghaaDoor.Q
open Go.RowKit Go.Proofs.YtadfcdpalcgghaaDoorW.PrintWords Go.Proofs.YtadfcdpalcgghaaDoorW.PrintLast Go.Proofs.YtadfcdpalcgghaaDoorW.PrintMore
attribute [local go_sem] max2_int min2_int max_two min_two max_three min_three max_four min_four   -- for this text's walks alone
set_option linter.unusedVariables false
set_option linter.unusedSimpArgs false

def fnV (n : Nat) : Value := .func (.func n) #[] #[]
def askC : Array Value := #[.int .i64 3, fnV 56, .int .i64 4, fnV 57, .int .i64 5, fnV 58, .int .i64 6, fnV 59, .int .i64 7, fnV 60]
set_option maxHeartbeats 1000000 in
set_option maxRecDepth 100000 in
theorem all_ask (W : World) :
  Calls Tryd.prog 43 #[] W fun e w' => e = .returned (.slice (some ⟨W.heap.size, 0, none⟩) 5 5) ∧ w'.heap[W.heap.size]? = some (.cells askC 85 (0, 0)) ∧ Below W.heap.size W w' := by
 go_enter Tryd.func43, Tryd.ntmps43
 go_wp2
 go_ret
 exact ⟨rfl, blk_new W _, below_alloc (Below.refl _ _) _⟩
def ask5 (t : TK) (ahead : List TK) : Nat → Bool
 | 0 => tNamed t ahead
 | 1 => tTimed t
 | 2 => tModed t
 | 3 => tFirm t
 | _ => tRanked t ahead
theorem whyT_first {t : TK} {ahead : List TK} {j : Nat} (hj : j < 5) (h : ∀ k, k < j → ask5 t ahead k = true) (hn : ask5 t ahead j = false) : whyT t ahead = 3 + j := by
 unfold whyT
 match j, hj with
 | 0, _ => rw [if_pos (show tNamed t ahead = false from hn)]; rfl
 | 1, _ => rw [if_neg (by rw [show tNamed t ahead = true from h 0 (by omega)]; decide), if_pos (show tTimed t = false from hn)]; rfl
 | 2, _ => rw [if_neg (by rw [show tNamed t ahead = true from h 0 (by omega)]; decide), if_neg (by rw [show tTimed t = true from h 1 (by omega)]; decide), if_pos (show tModed t = false from hn)]; rfl
 | 3, _ => rw [if_neg (by rw [show tNamed t ahead = true from h 0 (by omega)]; decide), if_neg (by rw [show tTimed t = true from h 1 (by omega)]; decide), if_neg (by rw [show tModed t = true from h 2 (by omega)]; decide), if_pos (show tFirm t = false from hn)]; rfl
 | 4, _ => rw [if_neg (by rw [show tNamed t ahead = true from h 0 (by omega)]; decide), if_neg (by rw [show tTimed t = true from h 1 (by omega)]; decide), if_neg (by rw [show tModed t = true from h 2 (by omega)]; decide), if_neg (by rw [show tFirm t = true from h 3 (by omega)]; decide), if_pos (show tRanked t ahead = false from hn)]; rfl
theorem whyT_fine {t : TK} {ahead : List TK} (h : ∀ k, k < 5 → ask5 t ahead k = true) : whyT t ahead = 0 := by
 unfold whyT
 rw [if_neg (by rw [show tNamed t ahead = true from h 0 (by omega)]; decide), if_neg (by rw [show tTimed t = true from h 1 (by omega)]; decide), if_neg (by rw [show tModed t = true from h 2 (by omega)]; decide), if_neg (by rw [show tFirm t = true from h 3 (by omega)]; decide), if_neg (by rw [show tRanked t ahead = true from h 4 (by omega)]; decide)]
/-- The five questions' functions. -/
def fn5 : Nat → Nat
 | 0 => 56
 | 1 => 57
 | 2 => 58
 | 3 => 59
 | _ => 60
theorem fn5_ask (j : Nat) (t : TK) (A : Option Addr) (c : Nat) (xs : List TK) (W : World) (hxs : Kd.C k26 W A xs.length xs) (hc : xs.length ≤ c) (hlen : xs.length ≤ 1000000) :
  Calls Tryd.prog (fn5 j) #[tkV t, .slice A xs.length c] W fun e w' => e = .returned (.bool (ask5 t xs j)) ∧ Below W.heap.size W w' := by
 match j with
 | 0 => exact named_ask t A c xs W hxs hc hlen
 | 1 => exact timed_ask t A c xs W hxs hc
 | 2 => exact moded_ask t A c xs W hxs hc
 | 3 => exact firm_ask t A c xs W hxs hc
 | n + 4 => exact ranked_ask t A c xs W hxs hc hlen
theorem fn5_enters (j : Nat) : ∀ args w, (callFunc (fn5 j) args).run Tryd.prog w = .ok (.enter (fn5 j) args) w := by
 intro args w
 match j with
 | 0 => (show (callFunc 56 args).run Tryd.prog w = .ok (.enter 56 args) w; go_simp; done)
 | 1 => (show (callFunc 57 args).run Tryd.prog w = .ok (.enter 57 args) w; go_simp; done)
 | 2 => (show (callFunc 58 args).run Tryd.prog w = .ok (.enter 58 args) w; go_simp; done)
 | 3 => (show (callFunc 59 args).run Tryd.prog w = .ok (.enter 59 args) w; go_simp; done)
 | n + 4 => (show (callFunc 60 args).run Tryd.prog w = .ok (.enter 60 args) w; go_simp; done)
theorem run_store_func {P : Program} {w : World} {a : Addr} {m : Go.Mode} (f : Fn) (x y : Array Value) : (store a (.func f x y) m).run P w = stored P w a (.func f x y) m := run_store P w a _ m rfl
attribute [local go_sem] run_store_func
theorem askC_at : ∀ j : Nat, j < 5 → askC[j * 2]? = some (.int .i64 (3 + (j : Int))) ∧ askC[j * 2 + 1]? = some (fnV (fn5 j))
 | 0, _ => ⟨rfl, rfl⟩
 | 1, _ => ⟨rfl, rfl⟩
 | 2, _ => ⟨rfl, rfl⟩
 | 3, _ => ⟨rfl, rfl⟩
 | 4, _ => ⟨rfl, rfl⟩
theorem infoTask : ∃ i, Tryd.prog.info? 26 = some i ∧ i.size = 11 := by
 obtain ⟨i, h1, _, h3, _⟩ := info_parts (show (Tryd.prog.info? 26).map (fun i => (i.zero, i.size, i.bytes)) = some (some (.agg #[.string ⟨#[]⟩, .int .i64 0, .int .i64 0, .int .i64 0, .int .i64 0, .int .i64 0, .int .i64 0, .int .i64 0, .int .i64 0, .int .i64 0, .int .i64 0]), 11, 96) by kernel_rfl)
 exact ⟨i, h1, h3⟩
set_option maxHeartbeats 4000000 in
set_option maxRecDepth 100000 in
theorem why_ask (b : Int) (A : Option Addr) (c : Nat) (ts : List TK) (W : World) (hts : Kd.C k26 W A ts.length ts) (hc : ts.length ≤ c) :
  Calls Tryd.prog 31 #[.agg #[.int .i64 b, .slice A ts.length c]] W fun e w' => e = .returned (.tuple #[.int .i64 (whyS b ts).1, .int .i64 (whyS b ts).2]) ∧ Below W.heap.size W w' := by
 have HC := Aside0.mk hts
 obtain ⟨W1, hW1⟩ : ∃ W1, W1 = W.alloc (.cells #[.int .i64 b, .slice A ts.length c] 24 (0, 0)) := ⟨_, rfl⟩
 have HB1 : Aside0 (Below W.heap.size W W1) := ⟨by rw [hW1]; exact below_alloc (Below.refl _ _) _⟩
 have HK1 : Aside0 (W1.heap[W.heap.size]? = some (.cells #[.int .i64 b, .slice A ts.length c] 24 (0, 0))) := ⟨by rw [hW1]; exact blk_new W _⟩
 obtain ⟨gs, hgs⟩ : ∃ gs, W.heap.size = gs := ⟨_, rfl⟩
 have HW1 := Aside0.mk hW1
 have hml : ts.length ≤ 9223372036854775807 := hts.2.1
 clear hts hW1
 obtain ⟨bb, hbb⟩ : ∃ bb, inB b 1 1000 = bb := ⟨_, rfl⟩
 obtain ⟨bc, hbc⟩ : ∃ bc, inB (ts.length : Int) 1 16 = bc := ⟨_, rfl⟩
 have HBB := Aside0.mk hbb
 have HBC := Aside0.mk hbc
 clear hbb hbc
 go_enter Tryd.func31, Tryd.ntmps31
 go_wp2_with fail
 rw [← HW1.out]
 rw [hgs] at HK1
 have HGS := Aside0.mk hgs
 clear hgs HW1
 refine (task_in.calls b 1 1000 bb _ (by rw [in_eq, HBB.out])).mono ?_
 rintro e wA ⟨rfl, hd⟩
 have hb := hd.below
 have HBA := Aside0.mk (below_weaken HB1.out HB1.out.size hb)
 have HKA := Aside0.mk (blk_below HK1.out hb)
 clear hd hb
 cases bb with
 | false =>
  go_wp2_with fail
  go_ret2
  exact ⟨by unfold whyS; rw [if_pos HBB.out]; rfl, HBA.out⟩
 | true =>
  have x1 := blk_cell HKA.out 1
  go_wp2_with fail
  refine (task_in.calls (ts.length : Int) 1 16 bc _ (by rw [in_eq, HBC.out])).mono ?_
  rintro e wB ⟨rfl, hd⟩
  have hb := hd.below
  have HB2 := Aside0.mk (below_step HBA.out hb)
  have HK2 := Aside0.mk (blk_below HKA.out hb)
  clear hd hb HBA HKA x1
  cases bc with
  | false =>
   go_wp2_with fail
   go_ret2
   exact ⟨by unfold whyS; rw [if_neg (by rw [HBB.out]; decide), if_pos HBC.out]; rfl, HB2.out⟩
  | true =>
   have hl16 : ts.length ≤ 16 := by have := HBC.out; unfold inB at this; simp at this; omega
   have HW : Aside0 (whyS b ts = whyFrom ts [] 0) := ⟨by unfold whyS; rw [if_neg (by rw [HBB.out]; decide), if_neg (by rw [HBC.out]; decide)]⟩
   have x1 := blk_cell HK2.out 1
   go_wp2_with fail
   go_loopg [22] ts.length (fun kk v22 wr => ∃ i : Nat, v22 = .int .i64 i ∧ i + kk = ts.length ∧ Aside0 (whyFrom (ts.drop i) (ts.take i) (i : Int) = whyFrom ts [] 0) ∧ Aside0 (Below W.heap.size W wr) ∧ Aside0 (wr.heap[gs]? = some (.cells #[.int .i64 b, .slice A ts.length c] 24 (0, 0))))
   case atStart => exact ⟨0, rfl, by omega, ⟨by simp⟩, HB2, HK2⟩
   case round =>
    clear HB2 HK2 x1
    obtain ⟨i, rfl, hik, HF, HB, HK⟩ := hrel
    by_cases hlt : i < ts.length
    ·have hd : decide ((i : Int) < (ts.length : Int)) = true := by simp; omega
     obtain ⟨ad, e, x0, x1, x2, x3, x4, x5, x6, x7, x8, x9, x10⟩ := at_T26 (Kd.C_below HC.out HB.out) (i : Int) (by omega) (by omega)
     cases e
     simp only [Int.toNat_natCast] at x0 x1 x2 x3 x4 x5 x6 x7 x8 x9 x10
     obtain ⟨t, ht⟩ : ∃ t, rd_T26 ts (i : Int) = t := ⟨_, rfl⟩
     have HTI : Aside0 (ts[i]? = some t) := ⟨by rw [← ht]; simp [rd_T26, List.getD_eq_getElem?_getD, List.getElem?_eq_getElem hlt]⟩
     rw [ht] at x0 x1 x2 x3 x4 x5 x6 x7 x8 x9 x10
     have p0 : (0 : Int) ≤ i := by omega
     have p1 : (i : Int) < (ts.length : Int) := by omega
     clear ht
     go_wp2_with fail
     obtain ⟨gt, hgt⟩ : ∃ gt, wr.heap.size = gt := ⟨_, rfl⟩
     obtain ⟨W2, hW2⟩ : ∃ W2, W2 = wr.alloc (.cells (tkC t) 26 (0, 0)) := ⟨_, rfl⟩
     have HW2 := Aside0.mk hW2
     have HB2 : Aside0 (Below W.heap.size W W2) := ⟨by rw [hW2]; exact below_alloc HB.out _⟩
     have HK2 : Aside0 (W2.heap[gs]? = some (.cells #[.int .i64 b, .slice (some ad) ts.length c] 24 (0, 0))) := ⟨by rw [hW2]; exact blk_alloc HK.out _⟩
     have HT2 : Aside0 (W2.heap[gt]? = some (.cells (tkC t) 26 (0, 0))) := ⟨by rw [hW2, ← hgt]; exact blk_new wr _⟩
     rw [hgt]
     clear hgt hW2 HB HK x0 x1 x2 x3 x4 x5 x6 x7 x8 x9 x10
     refine (show Calls Tryd.prog 43 #[] (wr.alloc (.cells (tkC t) 26 (0, 0))) _ from by rw [← HW2.out]; exact all_ask W2).mono ?_
     rintro e wA ⟨rfl, hka, hb⟩
     obtain ⟨ga, hga⟩ : ∃ ga, W2.heap.size = ga := ⟨_, rfl⟩
     rw [hga] at hka ⊢
     have HBA := Aside0.mk (below_step HB2.out hb)
     have HKA := Aside0.mk (blk_below HK2.out hb)
     have HTA := Aside0.mk (blk_below HT2.out hb)
     have HAA := Aside0.mk hka
     clear hka hb hga HB2 HK2 HT2 HW2
     go_wp2_with fail
     go_loopg [29] 5 (fun kk v29 wr => ∃ j : Nat, v29 = .int .i64 j ∧ j + kk = 5 ∧ Aside0 (∀ k, k < j → ask5 t (ts.take i) k = true) ∧ Aside0 (Below W.heap.size W wr) ∧ Aside0 (wr.heap[gs]? = some (.cells #[.int .i64 b, .slice (some ad) ts.length c] 24 (0, 0))) ∧ Aside0 (wr.heap[gt]? = some (.cells (tkC t) 26 (0, 0))) ∧ Aside0 (wr.heap[ga]? = some (.cells askC 85 (0, 0))))
     case atStart => exact ⟨0, rfl, by omega, ⟨fun k hk => absurd hk (Nat.not_lt_zero _)⟩, HBA, HKA, HTA, HAA⟩
     case round =>
      clear HBA HKA HTA HAA
      obtain ⟨j, rfl, hjk, HF5, HB, HK, HT, HA⟩ := hrel
      by_cases hjl : j < 5
      ·have hd2 : decide ((j : Int) < 5) = true := by simp; omega
       have y0 := (blk_cell HA.out (j * 2)).trans (askC_at j hjl).1
       have y1 := (blk_cell HA.out (j * 2 + 1)).trans (askC_at j hjl).2
       unfold fnV at y1
       obtain ⟨fj, hfj⟩ : ∃ fj, fn5 j = fj := ⟨_, rfl⟩
       have HFJ := Aside0.mk hfj
       have eg := fn5_enters j
       rw [hfj] at y1 eg
       have q0 : (0 : Int) ≤ j := by omega
       have q1 : (j : Int) < 5 := by omega
       have z1 : ∀ v : Value, (wr.alloc (.cells #[v, .nilFunc] 85 (0, 0))).cell? ⟨wr.heap.size, 1, none⟩ = some .nilFunc := fun v => blk_cell (blk_new wr _) 1
       have z2 : ∀ v : Value, (wr.alloc (.cells #[v, .nilFunc] 85 (0, 0))).frozen? ⟨wr.heap.size, 1, none⟩ = false := fun v => blk_frozen (blk_new wr _) 1
       clear hfj
       go_wp2_with fail
       obtain ⟨gq, hgq⟩ : ∃ gq, wr.heap.size = gq := ⟨_, rfl⟩
       obtain ⟨wZ, hwZ⟩ : ∃ wZ, wZ = wr.alloc (.cells #[.int .i64 (3 + (j : Int)), .func (.func fj) #[] #[]] 85 (0, 0)) := ⟨_, rfl⟩
       have hbz : Below wr.heap.size wr wZ := by rw [hwZ]; exact below_alloc (Below.refl _ _) _
       have HBZ := Aside0.mk (below_step HB.out hbz)
       have HKZ := Aside0.mk (blk_below HK.out hbz)
       have HTZ := Aside0.mk (blk_below HT.out hbz)
       have HAZ := Aside0.mk (blk_below HA.out hbz)
       have HQZ : Aside0 (wZ.heap[gq]? = some (.cells #[.int .i64 (3 + (j : Int)), .func (.func fj) #[] #[]] 85 (0, 0))) := ⟨by rw [hwZ, ← hgq]; exact blk_new wr _⟩
       rw [hgq, ← hwZ]
       have HCT : Aside0 (Kd.C k26 wZ (some ad) i (ts.take i)) := ⟨by have h := Kd.C_take (Kd.C_below HC.out HBZ.out) (m := i) (by omega); rwa [List.length_take, Nat.min_eq_left (by omega)] at h⟩
       have HLT : Aside0 ((ts.take i).length = i) := ⟨by rw [List.length_take]; omega⟩
       have hcl : i ≤ c := by omega
       clear hbz hgq hwZ HB HK HT HA y0 y1 z1 z2
       obtain ⟨iT, hiT, hsT⟩ := infoTask
       have hcut := cut_to (P := Tryd.prog) 22 26 .i64 Tryd.underlying22 hiT (some ad) ts.length c (i : Int) (by omega) (by omega) hc
       simp only [Int.toNat_natCast] at hcut
       have HS0 : Aside0 (∀ w' : World, Below wZ.heap.size wZ w' → w'.cell? ⟨gq, 1, none⟩ = some (.func (.func fj) #[] #[]) ∧ w'.cell? ⟨gs, 1, none⟩ = some (.slice (some ad) ts.length c) ∧ w'.cell? ⟨gt, 0, none⟩ = some (.string t.f0) ∧ w'.cell? ⟨gt, 1, none⟩ = some (.int .i64 t.f1) ∧ w'.cell? ⟨gt, 2, none⟩ = some (.int .i64 t.f2) ∧ w'.cell? ⟨gt, 3, none⟩ = some (.int .i64 t.f3) ∧ w'.cell? ⟨gt, 4, none⟩ = some (.int .i64 t.f4) ∧ w'.cell? ⟨gt, 5, none⟩ = some (.int .i64 t.f5) ∧ w'.cell? ⟨gt, 6, none⟩ = some (.int .i64 t.f6) ∧ w'.cell? ⟨gt, 7, none⟩ = some (.int .i64 t.f7) ∧ w'.cell? ⟨gt, 8, none⟩ = some (.int .i64 t.f8) ∧ w'.cell? ⟨gt, 9, none⟩ = some (.int .i64 t.f9) ∧ w'.cell? ⟨gt, 10, none⟩ = some (.int .i64 t.f10)) := ⟨fun w' hb =>
        ⟨blk_cell (blk_below HQZ.out hb) 1, blk_cell (blk_below HKZ.out hb) 1, blk_cell (blk_below HTZ.out hb) 0, blk_cell (blk_below HTZ.out hb) 1, blk_cell (blk_below HTZ.out hb) 2, blk_cell (blk_below HTZ.out hb) 3, blk_cell (blk_below HTZ.out hb) 4, blk_cell (blk_below HTZ.out hb) 5, blk_cell (blk_below HTZ.out hb) 6, blk_cell (blk_below HTZ.out hb) 7, blk_cell (blk_below HTZ.out hb) 8, blk_cell (blk_below HTZ.out hb) 9, blk_cell (blk_below HTZ.out hb) 10⟩⟩
       refine wp_region_noPanic ?_
       refine wp_region_late [] (fun w' : World => w'.cell? ⟨gq, 1, none⟩ = some (.func (.func fj) #[] #[]) ∧ w'.cell? ⟨gs, 1, none⟩ = some (.slice (some ad) ts.length c) ∧ w'.cell? ⟨gt, 0, none⟩ = some (.string t.f0) ∧ w'.cell? ⟨gt, 1, none⟩ = some (.int .i64 t.f1) ∧ w'.cell? ⟨gt, 2, none⟩ = some (.int .i64 t.f2) ∧ w'.cell? ⟨gt, 3, none⟩ = some (.int .i64 t.f3) ∧ w'.cell? ⟨gt, 4, none⟩ = some (.int .i64 t.f4) ∧ w'.cell? ⟨gt, 5, none⟩ = some (.int .i64 t.f5) ∧ w'.cell? ⟨gt, 6, none⟩ = some (.int .i64 t.f6) ∧ w'.cell? ⟨gt, 7, none⟩ = some (.int .i64 t.f7) ∧ w'.cell? ⟨gt, 8, none⟩ = some (.int .i64 t.f8) ∧ w'.cell? ⟨gt, 9, none⟩ = some (.int .i64 t.f9) ∧ w'.cell? ⟨gt, 10, none⟩ = some (.int .i64 t.f10)) (by kernel_rfl) ?_
       have hs0 := HS0.out wZ.drew (below_drew (Below.refl _ _))
       refine wpL_takeT (i := 0) (v := ?v0) rfl (by kernel_rfl) (by kernel_rfl) (by kernel_rfl) (by kernel_rfl) (fun _ _ _ h => h) (Or.inl ⟨by rfl, ?hy0⟩) (fun _ => hs0) ?rest0
       case hy0 => (intro w hSw; (try dsimp only at hSw); go_simp; (first | done | with_reducible rfl))
       try simp only [Act.put, List.getElem_toArray, List.getElem_cons_zero, List.getElem_cons_succ, List.setIfInBounds_toArray, List.set_cons_zero, List.set_cons_succ]
       refine wpL_take (i := 1) (v := ?v1) rfl (by kernel_rfl) (by kernel_rfl) (by kernel_rfl) (by kernel_rfl) (by kernel_rfl) (by kernel_rfl) (fun _ _ _ h => h) (Or.inl ⟨by rfl, ?hy1⟩) hs0 ?rest1
       case hy1 => (intro w hSw; (try dsimp only at hSw); obtain ⟨h0, h1, h2, h3, h4, h5, h6, h7, h8, h9, h10, h11, h12⟩ := hSw; go_simp; (first | done | with_reducible rfl))
       try simp only [Act.put, List.getElem_toArray, List.getElem_cons_zero, List.getElem_cons_succ, List.setIfInBounds_toArray, List.set_cons_zero, List.set_cons_succ]
       refine wpL_take (i := 2) (v := ?v2) rfl (by kernel_rfl) (by kernel_rfl) (by kernel_rfl) (by kernel_rfl) (by kernel_rfl) (by kernel_rfl) (fun _ _ _ h => h) (Or.inl ⟨by rfl, ?hy2⟩) hs0 ?rest2
       case hy2 => (intro w hSw; (try dsimp only at hSw); obtain ⟨h0, h1, h2, h3, h4, h5, h6, h7, h8, h9, h10, h11, h12⟩ := hSw; go_simp; (first | done | with_reducible rfl))
       try simp only [Act.put, List.getElem_toArray, List.getElem_cons_zero, List.getElem_cons_succ, List.setIfInBounds_toArray, List.set_cons_zero, List.set_cons_succ]
       refine wpL_takeT (i := 3) (v := ?v3) rfl (by kernel_rfl) (by kernel_rfl) (by kernel_rfl) (by kernel_rfl) (fun _ _ _ h => h) (Or.inl ⟨by rfl, ?hy3⟩) (fun _ => hs0) ?rest3
       case hy3 => (intro w hSw; (try dsimp only at hSw); go_simp; (first | done | with_reducible rfl))
       try simp only [Act.put, List.getElem_toArray, List.getElem_cons_zero, List.getElem_cons_succ, List.setIfInBounds_toArray, List.set_cons_zero, List.set_cons_succ]
       refine wpL_take (i := 4) (v := ?v4) rfl (by kernel_rfl) (by kernel_rfl) (by kernel_rfl) (by kernel_rfl) (by kernel_rfl) (by kernel_rfl) (fun _ _ _ h => h) (Or.inl ⟨by rfl, ?hy4⟩) hs0 ?rest4
       case hy4 => (intro w hSw; (try dsimp only at hSw); obtain ⟨h0, h1, h2, h3, h4, h5, h6, h7, h8, h9, h10, h11, h12⟩ := hSw; go_simp; (first | done | with_reducible rfl))
       try simp only [Act.put, List.getElem_toArray, List.getElem_cons_zero, List.getElem_cons_succ, List.setIfInBounds_toArray, List.set_cons_zero, List.set_cons_succ]
       refine wpL_takeT (i := 5) (v := ?v5) rfl (by kernel_rfl) (by kernel_rfl) (by kernel_rfl) (by kernel_rfl) (fun _ _ _ h => h) (Or.inl ⟨by rfl, ?hy5⟩) (fun _ => hs0) ?rest5
       case hy5 => (intro w hSw; (try dsimp only at hSw); go_simp; (first | done | with_reducible rfl))
       try simp only [Act.put, List.getElem_toArray, List.getElem_cons_zero, List.getElem_cons_succ, List.setIfInBounds_toArray, List.set_cons_zero, List.set_cons_succ]
       refine wpL_takeT (i := 6) (v := ?v6) rfl (by kernel_rfl) (by kernel_rfl) (by kernel_rfl) (by kernel_rfl) (fun _ _ _ h => h) (Or.inl ⟨by rfl, ?hy6⟩) (fun _ => hs0) ?rest6
       case hy6 => (intro w hSw; (try dsimp only at hSw); go_simp; (first | done | with_reducible rfl))
       try simp only [Act.put, List.getElem_toArray, List.getElem_cons_zero, List.getElem_cons_succ, List.setIfInBounds_toArray, List.set_cons_zero, List.set_cons_succ]
       clear hs0
       obtain ⟨ba, hba⟩ : ∃ ba, ask5 t (ts.take i) j = ba := ⟨_, rfl⟩
       have HBA := Aside0.mk hba
       clear hba hcut
       refine wpL_ready (rs := [7]) (by kernel_rfl) (by simp) (AllL.cons rfl (fun K hK => ?_) AllL.nil)
       go_simp
       have hcall := fn5_ask j t (some ad) c (ts.take i) wZ.drew (by rw [HLT.out]; exact Kd.C_drew HCT.out) (by rw [HLT.out]; exact hcl) (by rw [HLT.out]; omega)
       rw [HFJ.out, HLT.out, HBA.out] at hcall
       unfold tkV tkC at hcall
       refine hcall.mono ?_
       rintro e wB ⟨rfl, hb⟩
       have hbz : Below wZ.heap.size wZ wB := below_step (below_drew (Below.refl _ _)) hb
       have HBB := Aside0.mk hbz
       have hs1 := HS0.out wB hbz
       clear hcall hb hbz
       go_wp2_with fail
       refine hK.out _ _ hs1 ?_
       clear hK K
       try simp only [Act.put, List.getElem_toArray, List.getElem_cons_zero, List.getElem_cons_succ, List.setIfInBounds_toArray, List.set_cons_zero, List.set_cons_succ]
       refine wpL_ready (rs := [8]) (by kernel_rfl) (by simp) (AllL.cons rfl (fun K hK => ?_) AllL.nil)
       go_simp
       refine hK.out _ _ hs1 ?_
       clear hK K
       try simp only [Act.put, List.getElem_toArray, List.getElem_cons_zero, List.getElem_cons_succ, List.setIfInBounds_toArray, List.set_cons_zero, List.set_cons_succ]
       refine wpL_done (by kernel_rfl) (NoPanic.normal ?_) _
       have HB3 := Aside0.mk (below_step HBZ.out HBB.out)
       have HK3 := Aside0.mk (blk_below HKZ.out HBB.out)
       have HT3 := Aside0.mk (blk_below HTZ.out HBB.out)
       have HA3 := Aside0.mk (blk_below HAZ.out HBB.out)
       have z0 : wB.cell? ⟨gq, 0, none⟩ = some (.int .i64 (3 + (j : Int))) := blk_cell (blk_below HQZ.out HBB.out) 0
       clear hs1 HBZ HKZ HTZ HAZ HS0
       cases ba with
       | false =>
        have HR : Aside0 (whyFrom ts [] 0 = (3 + (j : Int), (i : Int))) := ⟨by
         have hw := whyT_first (t := t) (ahead := ts.take i) hjl HF5.out HBA.out
         have ht := HTI.out
         rw [List.getElem?_eq_getElem hlt] at ht
         rw [← HF.out, List.drop_eq_getElem_cons hlt, Option.some.inj ht, whyFrom, hw, if_neg (by omega)]⟩
        go_wp2_with fail
        go_ret2
        exact ⟨by rw [HW.out, HR.out]; rfl, HB3.out⟩
       | true =>
        have HF6 : Aside0 (∀ k, k < j + 1 → ask5 t (ts.take i) k = true) := ⟨fun k hk => by
         by_cases e : k = j
         ·rw [e]; exact HBA.out
         ·exact HF5.out k (by omega)⟩
        clear z0 eg
        go_wp2_with fail
        go_roundg (5 - (j + 1))
        case measure => omega
        case rel => exact ⟨j + 1, by first | rfl | simp, by omega, HF6, HB3, HK3, HT3, HA3⟩
      ·have hd2 : decide ((j : Int) < 5) = false := by simp; omega
       have HF7 : Aside0 (whyFrom (ts.drop (i + 1)) (ts.take (i + 1)) ((i + 1 : Nat) : Int) = whyFrom ts [] 0) := ⟨by
        have hw := whyT_fine (t := t) (ahead := ts.take i) (fun k hk => HF5.out k (by omega))
        have ht := HTI.out
        rw [List.getElem?_eq_getElem hlt] at ht
        rw [← HF.out, List.drop_eq_getElem_cons hlt, Option.some.inj ht, whyFrom, if_pos hw, List.take_succ_eq_append_getElem hlt, Option.some.inj ht]
        rfl⟩
       clear HF5 HT HA
       go_wp2_with fail
       go_roundg (ts.length - (i + 1))
       case measure => omega
       case rel => exact ⟨i + 1, by first | rfl | simp, by omega, HF7, HB, HK⟩
    ·have hd : decide ((i : Int) < (ts.length : Int)) = false := by simp; omega
     have HE : Aside0 (whyFrom ts [] 0 = (0, -1)) := ⟨by rw [← HF.out, List.drop_of_length_le (by omega)]; rfl⟩
     go_wp2_with fail
     go_ret2
     exact ⟨by rw [HW.out, HE.out]; rfl, HB.out⟩
end Go.Proofs.YtadfcdpalcgghaaDoor.Q
