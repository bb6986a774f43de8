-- The parser's one task: walked by hand.
-- NEEDS slices.Index[[]string,string]
import Derived.Test.YtadfcdpalcgghaaDoorM0
import Derived.Test.YtadfcdpalcgghaaDoorM1
import Derived.Test.YtadfcdpalcgghaaDoorHtaskC
import Derived.Deep.RegionHeld3
namespace Go.Proofs.YtadfcdpalcgghaaDoor.Q
open Go.RowKit Go.Proofs.YtadfcdpalcgghaaDoorW.PrintWords Go.Proofs.YtadfcdpalcgghaaDoorW.PrintLast Go.Proofs.YtadfcdpalcgghaaDoorW.PrintMore
attribute [local go_sem] max2_int min2_int max_two min_two max_three min_three max_four min_four   -- for this text's walks alone
set_option linter.unusedVariables false
set_option linter.unusedSimpArgs false

attribute [local go_sem] tok_f0 tok_f1 tok_f2 tok_f3 tok_f4
theorem infoTokRaw : (Tryd.prog.info? 61).map (fun i => (i.zero, i.size, i.bytes)) = some (some (.agg #[.int .i64 0, .string ⟨#[]⟩, .int .i64 0, .int .i64 0, .int .i64 0]), 5, 48) := by kernel_rfl
theorem infoTaskRaw : (Tryd.prog.info? 26).map (fun i => (i.zero, i.size, i.bytes)) = some (some (.agg #[.string ⟨#[]⟩, .int .i64 0, .int .i64 0, .int .i64 0, .int .i64 0, .int .i64 0, .int .i64 0, .int .i64 0, .int .i64 0, .int .i64 0, .int .i64 0]), 11, 96) := by kernel_rfl
section
variable {w0 W W' : World} {ok : Nat → Prop} {g : Nat} {A : Option Addr} {c : Nat} {vts vhs : Value} {p : PS}
/-- Behind an append to the heads, and its store. -/
theorem prs_heads {w1 : World} {v1 : Value} {hs1 : List TOK} (h : PrsX w0 ok W g A c vts vhs p) (hg : W.grownBy w1 vhs.ownBlock) (hb : Below w0.heap.size w0 w1) (hr : Kd.R k61 61 w1 w0.heap.size ok v1 hs1) :
  w1.heap[g]? = some (.cells (prsC A c vts vhs p) 63 (0, 0)) ∧ PrsX w0 ok (w1.setCell ⟨g, 11, none⟩ v1) g A c vts v1 { p with hs := hs1 } := by
 have hG := blk_grown h.1 hg (Kd.R_ne h.2.2.2.2.2.1 h.1 (by decide))
 have hT := Kd.R_over h.2.2.2.2.1 h.2.2.2.2.2.1 (by decide) hg
 exact ⟨hG, blk_put hG 11 v1 rfl, h.2.1, h.2.2.1, h.2.2.2.1, Kd.R_set hT hG (by decide) 11 v1, Kd.R_set hr hG (by decide) 11 v1, hb.setCell h.2.1 v1⟩
theorem prs_tasks {w1 : World} {v1 : Value} {ts1 : List TK} (h : PrsX w0 ok W g A c vts vhs p) (hg : W.grownBy w1 vts.ownBlock) (hb : Below w0.heap.size w0 w1) (hr : Kd.R k26 26 w1 w0.heap.size ok v1 ts1) :
  w1.heap[g]? = some (.cells (prsC A c vts vhs p) 63 (0, 0)) ∧ PrsX w0 ok (w1.setCell ⟨g, 5, none⟩ v1) g A c v1 vhs { p with ts := ts1 } := by
 have hG := blk_grown h.1 hg (Kd.R_ne h.2.2.2.2.1 h.1 (by decide))
 have hT := Kd.R_over h.2.2.2.2.2.1 h.2.2.2.2.1 (by decide) hg
 exact ⟨hG, blk_put hG 5 v1 rfl, h.2.1, h.2.2.1, h.2.2.2.1, Kd.R_set hr hG (by decide) 5 v1, Kd.R_set hT hG (by decide) 5 v1, hb.setCell h.2.1 v1⟩
def zTask : Array Value := tkC z26
set_option maxHeartbeats 4000000 in
set_option maxRecDepth 100000 in
theorem one_ask (h : PrsX w0 (fun _ => True) W g A c vts vhs p) (hl : Ends p.l) (hhl : p.hs.length ≤ 1000000) (htl : p.ts.length ≤ 1000000) :
  Calls Tryd.prog 29 #[.pointer (some ⟨g, 0, none⟩)] W fun e W' => e = .returned (.tuple #[]) ∧ (∃ A' c' vts' vhs', PrsX w0 (fun _ => True) W' g A' c' vts' vhs' p.one) ∧ Ends p.one.l := by
 obtain ⟨gt, hgt⟩ : ∃ gt, W.heap.size = gt := ⟨_, rfl⟩
 obtain ⟨W1, hW1⟩ : ∃ W1, W1 = W.alloc (.cells zTask 26 (0, 0)) := ⟨_, rfl⟩
 have hb1 : Below W.heap.size W W1 := by rw [hW1]; exact below_alloc (Below.refl _ _) _
 have HX := Aside0.mk ((h.bound.below hb1).mono (ok' := fun k => k ≠ gt) (fun k hk => by have := hk.2; omega))
 have HT : Aside0 (W1.heap[gt]? = some (.cells zTask 26 (0, 0))) := ⟨by rw [hW1, ← hgt]; exact blk_new W _⟩
 have HWG : Aside0 (w0.heap.size ≤ gt) := ⟨by rw [← hgt]; exact h.out_below.size⟩
 have hgg : gt ≠ g := by have := blk_lt h.1; omega
 have HL := Aside0.mk hl
 have HGS : Aside0 (gt < W1.heap.size) := ⟨by rw [hW1]; simp; omega⟩
 have HW1 := Aside0.mk hW1
 have HGT := Aside0.mk hgt
 clear h hl hb1 hW1 hgt
 go_enter Tryd.func29, Tryd.ntmps29
 go_wp2_with fail
 rw [show (W.alloc (.cells #[.string ⟨#[]⟩, .int .i64 0, .int .i64 0, .int .i64 0, .int .i64 0, .int .i64 0, .int .i64 0, .int .i64 0, .int .i64 0, .int .i64 0, .int .i64 0] 26 (0, 0))) = W1 from HW1.out.symm, HGT.out]
 have x11 : W1.cell? ⟨g, 11, none⟩ = some vhs := blk_cell HX.out.1 11
 have HS0 : Aside0 (∀ w' : World, Below W1.heap.size W1 w' → w'.cell? ⟨g, 11, none⟩ = some vhs) := ⟨fun w' hb => blk_cell (blk_below HX.out.1 hb) 11⟩
 refine wp_region_noPanic ?_
 refine wp_region_late [11] (fun w' : World => w'.cell? ⟨g, 11, none⟩ = some vhs) (by kernel_rfl) ?_
 have hs0 : W1.drew.cell? ⟨g, 11, none⟩ = some vhs := x11
 -- REGION 1
 refine wpL_takeT (i := 0) (v := ?v0a) rfl (by kernel_rfl) (by kernel_rfl) (by kernel_rfl) (by kernel_rfl) (fun _ _ _ h => h) (Or.inl ⟨by rfl, ?hy0a⟩) (fun _ => hs0) ?rest0a
 case hy0a => (intro w hSw; (try dsimp only at hSw); go_simp; (first | done | with_reducible rfl))
 try simp only [Act.put, List.getElem_toArray, List.getElem_cons_zero, List.getElem_cons_succ, List.setIfInBounds_toArray, List.set_cons_zero, List.set_cons_succ]
 refine wpL_takeT (i := 1) (v := ?v1a) rfl (by kernel_rfl) (by kernel_rfl) (by kernel_rfl) (by kernel_rfl) (fun _ _ _ h => h) (Or.inl ⟨by rfl, ?hy1a⟩) (fun _ => hs0) ?rest1a
 case hy1a => (intro w hSw; (try dsimp only at hSw); go_simp; (first | done | with_reducible rfl))
 try simp only [Act.put, List.getElem_toArray, List.getElem_cons_zero, List.getElem_cons_succ, List.setIfInBounds_toArray, List.set_cons_zero, List.set_cons_succ]
 refine wpL_takeT (i := 2) (v := ?v2a) rfl (by kernel_rfl) (by kernel_rfl) (by kernel_rfl) (by kernel_rfl) (fun _ _ _ h => h) (Or.inl ⟨by rfl, ?hy2a⟩) (fun _ => hs0) ?rest2a
 case hy2a => (intro w hSw; (try dsimp only at hSw); go_simp; (first | done | with_reducible rfl))
 try simp only [Act.put, List.getElem_toArray, List.getElem_cons_zero, List.getElem_cons_succ, List.setIfInBounds_toArray, List.set_cons_zero, List.set_cons_succ]
 refine wpL_takeT (i := 3) (v := ?v3a) rfl (by kernel_rfl) (by kernel_rfl) (by kernel_rfl) (by kernel_rfl) (fun _ _ _ h => h) (Or.inl ⟨by rfl, ?hy3a⟩) (fun _ => hs0) ?rest3a
 case hy3a => (intro w hSw; (try dsimp only at hSw); go_simp; (first | done | with_reducible rfl))
 try simp only [Act.put, List.getElem_toArray, List.getElem_cons_zero, List.getElem_cons_succ, List.setIfInBounds_toArray, List.set_cons_zero, List.set_cons_succ]
 refine wpL_take (i := 4) (v := ?v4a) rfl (by kernel_rfl) (by kernel_rfl) (by kernel_rfl) (by kernel_rfl) (by kernel_rfl) (by kernel_rfl) (fun _ _ _ h => h) (Or.inl ⟨by rfl, ?hy4a⟩) hs0 ?rest4a
 case hy4a => (intro w hSw; (try dsimp only at hSw); (try obtain ⟨h0, h1, h2, h3, h4, h5, h6, h7, h8, h9, h10, h11⟩ := hSw); go_simp; (first | done | with_reducible rfl))
 try simp only [Act.put, List.getElem_toArray, List.getElem_cons_zero, List.getElem_cons_succ, List.setIfInBounds_toArray, List.set_cons_zero, List.set_cons_succ]
 refine wpL_takeT (i := 5) (v := ?v5a) rfl (by kernel_rfl) (by kernel_rfl) (by kernel_rfl) (by kernel_rfl) (fun _ _ _ h => h) (Or.inl ⟨by rfl, ?hy5a⟩) (fun _ => hs0) ?rest5a
 case hy5a => (intro w hSw; (try dsimp only at hSw); go_simp; (first | done | with_reducible rfl))
 try simp only [Act.put, List.getElem_toArray, List.getElem_cons_zero, List.getElem_cons_succ, List.setIfInBounds_toArray, List.set_cons_zero, List.set_cons_succ]
 refine wpL_ready (rs := [6]) (by kernel_rfl) (by simp) (AllL.cons rfl (fun K hK => ?_) AllL.nil)
 go_simp
 have hnow := now_ask (HX.out.below (below_drew (Below.refl W1.heap.size W1))) HL.out.ne
 refine hnow.mono ?_
 rintro e wA ⟨rfl, hb⟩
 have hbA : Below W1.heap.size W1 wA := below_step (below_drew (Below.refl _ _)) hb
 have HBA := Aside0.mk hbA
 have hs1 := HS0.out wA hbA
 unfold tokC
 clear hnow hb hbA
 go_wp2_with fail
 refine hK.out _ _ hs1 ?_
 clear hK K
 try simp only [Act.put, List.getElem_toArray, List.getElem_cons_zero, List.getElem_cons_succ, List.setIfInBounds_toArray, List.set_cons_zero, List.set_cons_succ]
 refine wpL_ready (rs := [7]) (by kernel_rfl) (by simp) (AllL.cons rfl (fun K hK => ?_) AllL.nil)
 go_simp
 have hbB : Below W1.heap.size W1 (wA.alloc (.cells #[.int .i64 p.now.f0, .string p.now.f1, .int .i64 p.now.f2, .int .i64 p.now.f3, .int .i64 p.now.f4] 61 (0, 0))) := below_alloc HBA.out _
 refine hK.out _ _ (HS0.out _ hbB) ?_
 clear hK K hbB
 try simp only [Act.put, List.getElem_toArray, List.getElem_cons_zero, List.getElem_cons_succ, List.setIfInBounds_toArray, List.set_cons_zero, List.set_cons_succ]
 refine wpL_ready (rs := [8]) (by kernel_rfl) (by simp) (AllL.cons rfl (fun K hK => ?_) AllL.nil)
 have HXA := Aside0.mk (HX.out.below HBA.out)
 refine Kd.R_append_step k61 w0.heap.size (by rfl) (.tmp 7) (.tmp 10) 56 61 (.agg #[.int .i64 0, .string ⟨#[]⟩, .int .i64 0, .int .i64 0, .int .i64 0]) 48 rfl Tryd.underlying56 infoTokRaw rfl (by decide) (by omega) vhs p.hs p.now [.int .i64 p.now.f0, .string p.now.f1, .int .i64 p.now.f2, .int .i64 p.now.f3, .int .i64 p.now.f4] (fun k => k ≠ gt) (fun _ => False) rfl rfl (k61_mkM wA w0.heap.size (fun _ => False) p.now) (fun _ hk => hk.elim) (fun k hk => by have := HGS.out; have := HBA.out.size; omega) HXA.out.2.2.2.2.2.1 HXA.out.out_below HXA.out.out_below.size (by omega) ?_
 intro v1 w1 hR hb hg hat
 have HPH := Aside0.mk (prs_heads HXA.out hg hb hR)
 have HTG := Aside0.mk (blk_grown (blk_below HT.out HBA.out) hg (Kd.R_ne HXA.out.2.2.2.2.2.1 (blk_below HT.out HBA.out) (by decide)))
 have z0 : w1.cell? ⟨g, 11, none⟩ = some vhs := blk_cell HPH.out.1 11
 have z1 := blk_frozen HPH.out.1 11
 obtain ⟨A1, n1, c1, hv1⟩ : ∃ A n c, v1 = Value.slice A n c := by obtain ⟨A, c, h⟩ := Kd.R_slice hR; exact ⟨_, _, _, h⟩
 subst hv1
 clear hR hb hg hat
 refine hK.out _ _ z0 ?_
 clear hK K
 try simp only [Act.put, List.getElem_toArray, List.getElem_cons_zero, List.getElem_cons_succ, List.setIfInBounds_toArray, List.set_cons_zero, List.set_cons_succ]
 refine wpL_ready (rs := [9]) (by kernel_rfl) (by simp) (AllL.cons rfl (fun K hK => ?_) AllL.nil)
 go_simp
 refine hK.out _ _ z0 ?_
 clear hK K
 try simp only [Act.put, List.getElem_toArray, List.getElem_cons_zero, List.getElem_cons_succ, List.setIfInBounds_toArray, List.set_cons_zero, List.set_cons_succ]
 refine wpL_ready (rs := [10]) (by kernel_rfl) (by simp) (AllL.cons rfl (fun K hK => ?_) AllL.nil)
 go_simp
 refine hK.out _ _ z0 ?_
 clear hK K
 try simp only [Act.put, List.getElem_toArray, List.getElem_cons_zero, List.getElem_cons_succ, List.setIfInBounds_toArray, List.set_cons_zero, List.set_cons_succ]
 refine wpL_ready (rs := [11]) (by kernel_rfl) (by simp) (AllL.late rfl (by kernel_rfl) (fun K hK => ?_) AllL.nil)
 go_simp
 refine hK.out _ _ ?_
 clear hK K
 try simp only [Act.put, List.getElem_toArray, List.getElem_cons_zero, List.getElem_cons_succ, List.setIfInBounds_toArray, List.set_cons_zero, List.set_cons_succ]
 refine wpL_done (by kernel_rfl) (NoPanic.normal ?_) _
 -- END 1
 have HX2 := Aside0.mk HPH.out.2
 have hkt : ((w1.setCell ⟨g, 11, none⟩ (.slice A1 n1 c1)).heap[gt]?) = some (.cells zTask 26 (0, 0)) := (Below.heap_setCell w1 ⟨g, 11, none⟩ _ gt hgg).trans HTG.out
 obtain ⟨w2, hw2⟩ : ∃ w2, w2 = w1.setCell ⟨g, 11, none⟩ (.slice A1 n1 c1) := ⟨_, rfl⟩
 rw [← hw2] at HX2 hkt ⊢
 have HT2 := Aside0.mk hkt
 clear hkt hw2 HPH HTG HXA HBA HS0 z0 z1 hs1 HX HT x11
 obtain ⟨p1, hp1⟩ : ∃ p1 : PS, { p with hs := p.hs ++ [p.now] } = p1 := ⟨_, rfl⟩
 have HP1 := Aside0.mk hp1
 have HL1 : Aside0 (Ends p1.l) := ⟨by rw [← hp1]; exact HL.out⟩
 rw [hp1] at HX2
 clear hp1
 go_wp2_with fail
 have hb2 : Below w2.heap.size w2 (w2.alloc (.cells #[.string wTask] 9 (0, 0))) := below_alloc (Below.refl _ _) _
 refine (take_ask (HX2.out.below hb2) HL1.out.ne 1 _ 1 [wTask] (texts_C w2 [wTask] (by decide)) (Nat.le_refl _) (by decide)).mono ?_
 rintro e wB ⟨rfl, hX, hk⟩
 obtain ⟨A2, c2, hX⟩ := hX
 have HXB := Aside0.mk hX
 have HTB := Aside0.mk (blk_kept (blk_below HT2.out hb2) hk hgg)
 have HLB := Aside0.mk (take_ends HL1.out 1 (by omega) [wTask])
 obtain ⟨p2, hp2⟩ : ∃ p2, (p1.take 1 [wTask]).1 = p2 := ⟨_, rfl⟩
 have HP2 := Aside0.mk hp2
 rw [hp2] at HXB HLB
 unfold tokC
 clear hX hk hb2 hp2 HX2 HT2
 go_wp2_with fail
 refine (take_ask HXB.out HLB.out.ne 1 none 0 [] (Kd.C_nil _ _) (Nat.le_refl _) (Nat.zero_le _)).mono ?_
 rintro e wC ⟨rfl, hX, hk⟩
 obtain ⟨A3, c3, hX⟩ := hX
 have HXC := Aside0.mk hX
 have htc := blk_kept HTB.out hk hgg
 have HTC := Aside0.mk htc
 have HLC := Aside0.mk (take_ends HLB.out 1 (by omega) [])
 obtain ⟨p3, hp3⟩ : ∃ p3, p2.take 1 [] = p3 := ⟨_, rfl⟩
 have HP3 := Aside0.mk hp3
 rw [hp3] at HXC HLC ⊢
 have t0 : wC.cell? ⟨gt, 0, none⟩ = some (.string ⟨#[]⟩) := blk_cell htc 0
 have f0 := blk_frozen htc 0
 unfold tokC
 clear hX hk hp3 HXB HTB htc
 go_wp2_with fail
 obtain ⟨wD, hwD⟩ : ∃ wD, wD = wC.setCell ⟨gt, 0, none⟩ (.string p3.2.f1) := ⟨_, rfl⟩
 have HXD : Aside0 (PrsX w0 (fun k => k ≠ gt) wD g A3 c3 vts (.slice A1 n1 c1) p3.1) := ⟨by rw [hwD]; exact HXC.out.far hgg (fun k h => h) HWG.out 0 _⟩
 have HTD : Aside0 (wD.heap[gt]? = some (.cells #[.string p3.2.f1, .int .i64 0, .int .i64 0, .int .i64 0, .int .i64 0, .int .i64 0, .int .i64 0, .int .i64 0, .int .i64 0, .int .i64 0, .int .i64 0] 26 (0, 0))) := ⟨by rw [hwD]; exact blk_put HTC.out 0 _ rfl⟩
 rw [← hwD]
 try rw [show wC.heap.size = wD.heap.size by rw [hwD]; simp]
 clear hwD HXC HTC t0 f0
 have hbE : Below wD.heap.size wD (wD.alloc (.cells #[.pointer (some ⟨gt, 1, none⟩), .pointer (some ⟨gt, 2, none⟩), .pointer (some ⟨gt, 3, none⟩)] 78 (0, 0))) := below_alloc (Below.refl _ _) _
 refine (numbers_ask (HXD.out.below hbE) HLC.out gt _ _ (blk_below HTD.out hbE) hgg HWG.out (fun k h => h) [1, 2, 3] (by intro i h; match i, h with | 0, _ => simp | 1, _ => simp | 2, _ => simp) wD.heap.size _ _ (blk_new wD _) (by intro i h; match i, h with | 0, _ => rfl | 1, _ => rfl | 2, _ => rfl) (by have := blk_lt HXD.out.1; omega) (by have := blk_lt HTD.out; omega) (by decide) 3 (Nat.le_refl _)).mono ?_
 rintro e wE ⟨rfl, hX, hq, hk⟩
 obtain ⟨A4, c4, hX⟩ := hX
 have HLE := Aside0.mk (nums_ends 3 p3.1 HLC.out)
 obtain ⟨n0, n1', n2, hn⟩ : ∃ a b d, (PS.nums 3 p3.1).2 = [a, b, d] := ⟨_, _, _, rfl⟩
 obtain ⟨p4, hp4⟩ : ∃ p4, PS.nums 3 p3.1 = p4 := ⟨_, rfl⟩
 have HP4 := Aside0.mk hp4
 have hX' : PrsX w0 (fun k => k ≠ gt) wE g A4 c4 vts (.slice A1 n1 c1) p4.1 := by rw [← hp4]; exact hX
 have HXE := Aside0.mk hX'
 have HTE : Aside0 (wE.heap[gt]? = some (.cells #[.string p3.2.f1, .int .i64 n0, .int .i64 n1', .int .i64 n2, .int .i64 0, .int .i64 0, .int .i64 0, .int .i64 0, .int .i64 0, .int .i64 0, .int .i64 0] 26 (0, 0))) := ⟨by
  have hq2 : wE.heap[gt]? = some (.cells (putNs #[.string p3.2.f1, .int .i64 0, .int .i64 0, .int .i64 0, .int .i64 0, .int .i64 0, .int .i64 0, .int .i64 0, .int .i64 0, .int .i64 0, .int .i64 0] [1, 2, 3] (PS.nums 3 p3.1).2) 26 (0, 0)) := hq
  rw [hn] at hq2
  exact hq2⟩
 have HN4 : Aside0 (p4.2 = [n0, n1', n2]) := ⟨by rw [← hp4]; exact hn⟩
 have HLE2 : Aside0 (Ends p4.1.l) := ⟨by rw [← hp4]; exact HLE.out⟩
 clear hX hX' hq hk hn hp4 hbE HXD HTD HLE
 go_wp2_with fail
 have hb5 : Below wE.heap.size wE (wE.alloc (.cells #[.string wRetry, .string wBlock, .string wBackup] 9 (0, 0))) := below_alloc (Below.refl _ _) _
 refine (take_ask (HXE.out.below hb5) HLE2.out.ne 1 _ 3 [wRetry, wBlock, wBackup] (texts_C wE [wRetry, wBlock, wBackup] (by decide)) (Nat.le_refl _) (by decide)).mono ?_
 rintro e wF ⟨rfl, hX, hk⟩
 obtain ⟨A5, c5, hX⟩ := hX
 have HXF := Aside0.mk hX
 have HTF := Aside0.mk (blk_kept (blk_below HTE.out hb5) hk hgg)
 have HLF := Aside0.mk (take_ends HLE2.out 1 (by omega) [wRetry, wBlock, wBackup])
 obtain ⟨p5, hp5⟩ : ∃ p5, p4.1.take 1 [wRetry, wBlock, wBackup] = p5 := ⟨_, rfl⟩
 have HP5 := Aside0.mk hp5
 rw [hp5] at HXF HLF ⊢
 unfold tokC
 clear hX hk hb5 hp5 HXE HTE
 go_wp2_with fail
 refine (mode_ask p5.2.f1 wF).mono ?_
 rintro e wG ⟨rfl, hb⟩
 have HXG := Aside0.mk (HXF.out.below hb)
 have htg := blk_below HTF.out hb
 have HTG := Aside0.mk htg
 have t9 : wG.cell? ⟨gt, 9, none⟩ = some (.int .i64 0) := blk_cell htg 9
 have f9 := blk_frozen htg 9
 obtain ⟨mo, hmo⟩ : ∃ mo, modeOf p5.2.f1 = mo := ⟨_, rfl⟩
 have HMO := Aside0.mk hmo
 rw [hmo]
 clear hb HXF HTF htg hmo
 go_wp2_with fail
 obtain ⟨wH, hwH⟩ : ∃ wH, wH = wG.setCell ⟨gt, 9, none⟩ (.int .i64 mo) := ⟨_, rfl⟩
 have HXH : Aside0 (PrsX w0 (fun k => k ≠ gt) wH g A5 c5 vts (.slice A1 n1 c1) p5.1) := ⟨by rw [hwH]; exact HXG.out.far hgg (fun k h => h) HWG.out 9 _⟩
 have HTH : Aside0 (wH.heap[gt]? = some (.cells #[.string p3.2.f1, .int .i64 n0, .int .i64 n1', .int .i64 n2, .int .i64 0, .int .i64 0, .int .i64 0, .int .i64 0, .int .i64 0, .int .i64 mo, .int .i64 0] 26 (0, 0))) := ⟨by rw [hwH]; exact blk_put HTG.out 9 _ rfl⟩
 rw [← hwH]
 try rw [show wG.heap.size = wH.heap.size by rw [hwH]; simp]
 clear hwH HXG HTG t9 f9
 have hbI : Below wH.heap.size wH (wH.alloc (.cells #[.pointer (some ⟨gt, 4, none⟩), .pointer (some ⟨gt, 5, none⟩), .pointer (some ⟨gt, 6, none⟩), .pointer (some ⟨gt, 7, none⟩), .pointer (some ⟨gt, 8, none⟩), .pointer (some ⟨gt, 10, none⟩)] 78 (0, 0))) := below_alloc (Below.refl _ _) _
 refine (numbers_ask (HXH.out.below hbI) HLF.out gt _ _ (blk_below HTH.out hbI) hgg HWG.out (fun k h => h) [4, 5, 6, 7, 8, 10] (by intro i h; match i, h with | 0, _ => simp | 1, _ => simp | 2, _ => simp | 3, _ => simp | 4, _ => simp | 5, _ => simp) wH.heap.size _ _ (blk_new wH _) (by intro i h; match i, h with | 0, _ => rfl | 1, _ => rfl | 2, _ => rfl | 3, _ => rfl | 4, _ => rfl | 5, _ => rfl) (by have := blk_lt HXH.out.1; omega) (by have := blk_lt HTH.out; omega) (by decide) 6 (Nat.le_refl _)).mono ?_
 rintro e wI ⟨rfl, hX, hq, hk⟩
 obtain ⟨A6, c6, hX⟩ := hX
 have HLI := Aside0.mk (nums_ends 6 p5.1 HLF.out)
 obtain ⟨m0, m1, m2, m3, m4, m5, hn⟩ : ∃ a b c d e f, (PS.nums 6 p5.1).2 = [a, b, c, d, e, f] := ⟨_, _, _, _, _, _, rfl⟩
 obtain ⟨p6, hp6⟩ : ∃ p6, PS.nums 6 p5.1 = p6 := ⟨_, rfl⟩
 have HP6 := Aside0.mk hp6
 have hX' : PrsX w0 (fun k => k ≠ gt) wI g A6 c6 vts (.slice A1 n1 c1) p6.1 := by rw [← hp6]; exact hX
 have HXI := Aside0.mk hX'
 have HTI : Aside0 (wI.heap[gt]? = some (.cells #[.string p3.2.f1, .int .i64 n0, .int .i64 n1', .int .i64 n2, .int .i64 m0, .int .i64 m1, .int .i64 m2, .int .i64 m3, .int .i64 m4, .int .i64 mo, .int .i64 m5] 26 (0, 0))) := ⟨by
  have hq2 : wI.heap[gt]? = some (.cells (putNs #[.string p3.2.f1, .int .i64 n0, .int .i64 n1', .int .i64 n2, .int .i64 0, .int .i64 0, .int .i64 0, .int .i64 0, .int .i64 0, .int .i64 mo, .int .i64 0] [4, 5, 6, 7, 8, 10] (PS.nums 6 p5.1).2) 26 (0, 0)) := hq
  rw [hn] at hq2
  exact hq2⟩
 have HN6 : Aside0 (p6.2 = [m0, m1, m2, m3, m4, m5]) := ⟨by rw [← hp6]; exact hn⟩
 have HLI2 : Aside0 (Ends p6.1.l) := ⟨by rw [← hp6]; exact HLI.out⟩
 clear hX hX' hq hk hn hp6 hbI HXH HTH HLI
 go_wp2_with fail
 refine (fin_ask HXI.out HLI2.out).mono ?_
 rintro e wJ ⟨rfl, hX, hk⟩
 obtain ⟨A7, c7, hX⟩ := hX
 have HX8 := Aside0.mk hX
 have HT8 := Aside0.mk (blk_kept HTI.out hk hgg)
 have HL8 := Aside0.mk (fin_ends HLI2.out)
 obtain ⟨p8, hp8⟩ : ∃ p8, p6.1.fin = p8 := ⟨_, rfl⟩
 have HP8 := Aside0.mk hp8
 rw [hp8] at HX8 HL8
 clear hX hk hp8 HXI HTI
 go_wp2_with fail
 obtain ⟨w8, hw8⟩ : ∃ w8, w8 = wJ := ⟨_, rfl⟩
 subst hw8
 obtain ⟨tz, htz⟩ : ∃ tz : TK, tz = ⟨p3.2.f1, n0, n1', n2, m0, m1, m2, m3, m4, mo, m5⟩ := ⟨_, rfl⟩
 have HTZ := Aside0.mk htz
 have HT9 : Aside0 (w8.heap[gt]? = some (.cells (tkC tz) 26 (0, 0))) := ⟨by rw [htz]; exact HT8.out⟩
 have HG8 : Aside0 (gt < w8.heap.size) := ⟨blk_lt HT8.out⟩
 have hts8 : p8.ts = p.ts := by
  have e1 : ∀ (q : PS) (k : Int) (tx : List ByteArray), (q.take k tx).1.ts = q.ts := fun q k tx => by unfold PS.take PS.fail; split <;> (try split) <;> rfl
  have e2 : ∀ (n : Nat) (q : PS), (PS.nums n q).1.ts = q.ts := fun n => by
   induction n with
   | zero => intro q; rfl
   | succ n ih => intro q; rw [PS.nums]; show ((PS.nums n q).1.take 2 []).1.ts = q.ts; rw [e1, ih]
  have e3 : ∀ q : PS, q.fin.ts = q.ts := fun q => by unfold PS.fin; split <;> first | rfl | exact e1 _ _ _
  rw [← HP8.out, e3, ← HP6.out, e2, ← HP5.out, e1, ← HP4.out, e2, ← HP3.out, e1, ← HP2.out, e1, ← HP1.out]
 have HT8L : Aside0 (p8.ts.length ≤ 1000000) := ⟨by rw [hts8]; exact htl⟩
 have HS8 : Aside0 (∀ w' : World, w'.heap[g]? = w8.heap[g]? → w'.heap[gt]? = w8.heap[gt]? → (w'.cell? ⟨g, 5, none⟩ = some vts ∧ w'.cell? ⟨gt, 0, none⟩ = some (.string tz.f0) ∧ w'.cell? ⟨gt, 1, none⟩ = some (.int .i64 tz.f1) ∧ w'.cell? ⟨gt, 2, none⟩ = some (.int .i64 tz.f2) ∧ w'.cell? ⟨gt, 3, none⟩ = some (.int .i64 tz.f3) ∧ w'.cell? ⟨gt, 4, none⟩ = some (.int .i64 tz.f4) ∧ w'.cell? ⟨gt, 5, none⟩ = some (.int .i64 tz.f5) ∧ w'.cell? ⟨gt, 6, none⟩ = some (.int .i64 tz.f6) ∧ w'.cell? ⟨gt, 7, none⟩ = some (.int .i64 tz.f7) ∧ w'.cell? ⟨gt, 8, none⟩ = some (.int .i64 tz.f8) ∧ w'.cell? ⟨gt, 9, none⟩ = some (.int .i64 tz.f9) ∧ w'.cell? ⟨gt, 10, none⟩ = some (.int .i64 tz.f10))) := ⟨fun w' e1 e2 =>
  ⟨blk_cell (e1.trans HX8.out.1) 5, blk_cell (e2.trans HT9.out) 0, blk_cell (e2.trans HT9.out) 1, blk_cell (e2.trans HT9.out) 2, blk_cell (e2.trans HT9.out) 3, blk_cell (e2.trans HT9.out) 4, blk_cell (e2.trans HT9.out) 5, blk_cell (e2.trans HT9.out) 6, blk_cell (e2.trans HT9.out) 7, blk_cell (e2.trans HT9.out) 8, blk_cell (e2.trans HT9.out) 9, blk_cell (e2.trans HT9.out) 10⟩⟩
 have HGG8 : Aside0 (g < w8.heap.size) := ⟨blk_lt HX8.out.1⟩
 clear htz hts8
 refine wp_region_noPanic ?_
 refine wp_region_late [12] (fun w' : World => w'.cell? ⟨g, 5, none⟩ = some vts ∧ w'.cell? ⟨gt, 0, none⟩ = some (.string tz.f0) ∧ w'.cell? ⟨gt, 1, none⟩ = some (.int .i64 tz.f1) ∧ w'.cell? ⟨gt, 2, none⟩ = some (.int .i64 tz.f2) ∧ w'.cell? ⟨gt, 3, none⟩ = some (.int .i64 tz.f3) ∧ w'.cell? ⟨gt, 4, none⟩ = some (.int .i64 tz.f4) ∧ w'.cell? ⟨gt, 5, none⟩ = some (.int .i64 tz.f5) ∧ w'.cell? ⟨gt, 6, none⟩ = some (.int .i64 tz.f6) ∧ w'.cell? ⟨gt, 7, none⟩ = some (.int .i64 tz.f7) ∧ w'.cell? ⟨gt, 8, none⟩ = some (.int .i64 tz.f8) ∧ w'.cell? ⟨gt, 9, none⟩ = some (.int .i64 tz.f9) ∧ w'.cell? ⟨gt, 10, none⟩ = some (.int .i64 tz.f10)) (by kernel_rfl) ?_
 have hs8 := HS8.out w8.drew rfl rfl
 -- REGION 8
 refine wpL_takeT (i := 0) (v := ?v0b) rfl (by kernel_rfl) (by kernel_rfl) (by kernel_rfl) (by kernel_rfl) (fun _ _ _ h => h) (Or.inl ⟨by rfl, ?hy0b⟩) (fun _ => hs8) ?rest0b
 case hy0b => (intro w hSw; (try dsimp only at hSw); go_simp; (first | done | with_reducible rfl))
 try simp only [Act.put, List.getElem_toArray, List.getElem_cons_zero, List.getElem_cons_succ, List.setIfInBounds_toArray, List.set_cons_zero, List.set_cons_succ]
 refine wpL_takeT (i := 1) (v := ?v1b) rfl (by kernel_rfl) (by kernel_rfl) (by kernel_rfl) (by kernel_rfl) (fun _ _ _ h => h) (Or.inl ⟨by rfl, ?hy1b⟩) (fun _ => hs8) ?rest1b
 case hy1b => (intro w hSw; (try dsimp only at hSw); go_simp; (first | done | with_reducible rfl))
 try simp only [Act.put, List.getElem_toArray, List.getElem_cons_zero, List.getElem_cons_succ, List.setIfInBounds_toArray, List.set_cons_zero, List.set_cons_succ]
 refine wpL_takeT (i := 2) (v := ?v2b) rfl (by kernel_rfl) (by kernel_rfl) (by kernel_rfl) (by kernel_rfl) (fun _ _ _ h => h) (Or.inl ⟨by rfl, ?hy2b⟩) (fun _ => hs8) ?rest2b
 case hy2b => (intro w hSw; (try dsimp only at hSw); go_simp; (first | done | with_reducible rfl))
 try simp only [Act.put, List.getElem_toArray, List.getElem_cons_zero, List.getElem_cons_succ, List.setIfInBounds_toArray, List.set_cons_zero, List.set_cons_succ]
 refine wpL_takeT (i := 3) (v := ?v3b) rfl (by kernel_rfl) (by kernel_rfl) (by kernel_rfl) (by kernel_rfl) (fun _ _ _ h => h) (Or.inl ⟨by rfl, ?hy3b⟩) (fun _ => hs8) ?rest3b
 case hy3b => (intro w hSw; (try dsimp only at hSw); go_simp; (first | done | with_reducible rfl))
 try simp only [Act.put, List.getElem_toArray, List.getElem_cons_zero, List.getElem_cons_succ, List.setIfInBounds_toArray, List.set_cons_zero, List.set_cons_succ]
 refine wpL_takeT (i := 4) (v := ?v4b) rfl (by kernel_rfl) (by kernel_rfl) (by kernel_rfl) (by kernel_rfl) (fun _ _ _ h => h) (Or.inl ⟨by rfl, ?hy4b⟩) (fun _ => hs8) ?rest4b
 case hy4b => (intro w hSw; (try dsimp only at hSw); go_simp; (first | done | with_reducible rfl))
 try simp only [Act.put, List.getElem_toArray, List.getElem_cons_zero, List.getElem_cons_succ, List.setIfInBounds_toArray, List.set_cons_zero, List.set_cons_succ]
 refine wpL_take (i := 5) (v := ?v5b) rfl (by kernel_rfl) (by kernel_rfl) (by kernel_rfl) (by kernel_rfl) (by kernel_rfl) (by kernel_rfl) (fun _ _ _ h => h) (Or.inl ⟨by rfl, ?hy5b⟩) hs8 ?rest5b
 case hy5b => (intro w hSw; (try dsimp only at hSw); (try obtain ⟨h0, h1, h2, h3, h4, h5, h6, h7, h8, h9, h10, h11⟩ := hSw); go_simp; (first | done | with_reducible rfl))
 try simp only [Act.put, List.getElem_toArray, List.getElem_cons_zero, List.getElem_cons_succ, List.setIfInBounds_toArray, List.set_cons_zero, List.set_cons_succ]
 refine wpL_take (i := 6) (v := ?v6b) rfl (by kernel_rfl) (by kernel_rfl) (by kernel_rfl) (by kernel_rfl) (by kernel_rfl) (by kernel_rfl) (fun _ _ _ h => h) (Or.inl ⟨by rfl, ?hy6b⟩) hs8 ?rest6b
 case hy6b => (intro w hSw; (try dsimp only at hSw); (try obtain ⟨h0, h1, h2, h3, h4, h5, h6, h7, h8, h9, h10, h11⟩ := hSw); go_simp; (first | done | with_reducible rfl))
 try simp only [Act.put, List.getElem_toArray, List.getElem_cons_zero, List.getElem_cons_succ, List.setIfInBounds_toArray, List.set_cons_zero, List.set_cons_succ]
 refine wpL_ready (rs := [7]) (by kernel_rfl) (by simp) (AllL.cons rfl (fun K hK => ?_) AllL.nil)
 go_simp
 refine hK.out _ _ (HS8.out _ (Below.heap_alloc w8.drew _ g HGG8.out) (Below.heap_alloc w8.drew _ gt HG8.out)) ?_
 clear hK K
 try simp only [Act.put, List.getElem_toArray, List.getElem_cons_zero, List.getElem_cons_succ, List.setIfInBounds_toArray, List.set_cons_zero, List.set_cons_succ]
 refine wpL_ready (rs := [8]) (by kernel_rfl) (by simp) (AllL.cons rfl (fun K hK => ?_) AllL.nil)
 refine Kd.R_append_step k26 w0.heap.size (by rfl) (.tmp 49) (.tmp 51) 22 26 (.agg #[.string ⟨#[]⟩, .int .i64 0, .int .i64 0, .int .i64 0, .int .i64 0, .int .i64 0, .int .i64 0, .int .i64 0, .int .i64 0, .int .i64 0, .int .i64 0]) 96 rfl Tryd.underlying22 infoTaskRaw rfl (by decide) (by omega) vts p8.ts tz [.string tz.f0, .int .i64 tz.f1, .int .i64 tz.f2, .int .i64 tz.f3, .int .i64 tz.f4, .int .i64 tz.f5, .int .i64 tz.f6, .int .i64 tz.f7, .int .i64 tz.f8, .int .i64 tz.f9, .int .i64 tz.f10] (fun k => k ≠ gt) (fun _ => False) rfl rfl (k26_mkM w8.drew w0.heap.size (fun _ => False) tz) (fun _ hk => hk.elim) (fun k hk => by have := HG8.out; have hk2 : w8.heap.size ≤ k := hk; omega) (Kd.R_drew HX8.out.2.2.2.2.1) (below_drew HX8.out.out_below) HX8.out.out_below.size (by have := HT8L.out; omega) ?_
 intro v1 w9 hR hb hg hat
 have HPT := Aside0.mk (prs_tasks (HX8.out.below (below_drew (Below.refl _ _))) hg hb hR)
 have y0 : w9.cell? ⟨g, 5, none⟩ = some vts := blk_cell HPT.out.1 5
 have y1 := blk_frozen HPT.out.1 5
 obtain ⟨A9, n9, c9, hv9⟩ : ∃ A n c, v1 = Value.slice A n c := by obtain ⟨A, c, h⟩ := Kd.R_slice hR; exact ⟨_, _, _, h⟩
 subst hv9
 have hs9 := HS8.out w9 (HPT.out.1.trans HX8.out.1.symm) ((blk_grown (w := w8.drew) HT9.out hg (fun e => HX8.out.2.2.2.2.1.1 gt e.symm rfl)).trans HT9.out.symm)
 clear hR hb hg hat
 refine hK.out _ _ hs9 ?_
 clear hK K
 try simp only [Act.put, List.getElem_toArray, List.getElem_cons_zero, List.getElem_cons_succ, List.setIfInBounds_toArray, List.set_cons_zero, List.set_cons_succ]
 refine wpL_ready (rs := [9]) (by kernel_rfl) (by simp) (AllL.cons rfl (fun K hK => ?_) AllL.nil)
 go_simp
 refine hK.out _ _ hs9 ?_
 clear hK K
 try simp only [Act.put, List.getElem_toArray, List.getElem_cons_zero, List.getElem_cons_succ, List.setIfInBounds_toArray, List.set_cons_zero, List.set_cons_succ]
 refine wpL_ready (rs := [10]) (by kernel_rfl) (by simp) (AllL.cons rfl (fun K hK => ?_) AllL.nil)
 go_simp
 refine hK.out _ _ hs9 ?_
 clear hK K
 try simp only [Act.put, List.getElem_toArray, List.getElem_cons_zero, List.getElem_cons_succ, List.setIfInBounds_toArray, List.set_cons_zero, List.set_cons_succ]
 refine wpL_ready (rs := [11]) (by kernel_rfl) (by simp) (AllL.cons rfl (fun K hK => ?_) AllL.nil)
 go_simp
 refine hK.out _ _ hs9 ?_
 clear hK K
 try simp only [Act.put, List.getElem_toArray, List.getElem_cons_zero, List.getElem_cons_succ, List.setIfInBounds_toArray, List.set_cons_zero, List.set_cons_succ]
 refine wpL_ready (rs := [12]) (by kernel_rfl) (by simp) (AllL.late rfl (by kernel_rfl) (fun K hK => ?_) AllL.nil)
 go_simp
 refine hK.out _ _ ?_
 clear hK K
 try simp only [Act.put, List.getElem_toArray, List.getElem_cons_zero, List.getElem_cons_succ, List.setIfInBounds_toArray, List.set_cons_zero, List.set_cons_succ]
 refine wpL_done (by kernel_rfl) (NoPanic.normal ?_) _
 -- END 8
 go_wp2_with fail
 first | go_end0 | ((try simp only [Exit.inBlock, Exit.then]); refine bodyPost_ret (results_none rfl _ _ _) rfl ?_)
 have HONE : p.one = { p8 with ts := p8.ts ++ [tz] } := by
  unfold PS.one
  simp only [HP1.out, HP2.out, HP3.out, HP4.out, HP5.out, HP6.out, HP8.out, HN4.out, HN6.out, HMO.out, HTZ.out]
  rfl
 rw [HONE]
 exact ⟨rfl, ⟨_, _, _, _, HPT.out.2.mono (fun _ _ => trivial)⟩, HL8.out⟩
end
end Go.Proofs.YtadfcdpalcgghaaDoor.Q