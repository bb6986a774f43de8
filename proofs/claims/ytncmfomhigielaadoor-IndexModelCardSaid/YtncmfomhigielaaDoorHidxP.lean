-- Index.Put: walked by hand.
-- NEEDS pendulum/index.Named
import Derived.Test.YtncmfomhigielaaDoorQ0
import Derived.Test.YtncmfomhigielaaDoorHidxA
import Derived.Test.YtncmfomhigielaaDoorHidxB
import Derived.Test.YtncmfomhigielaaDoorHidxI
import Derived.Test.YtncmfomhigielaaDoorHnamed
import Derived.Test.YtncmfomhigielaaDoorLregL
import Derived.Test.YtncmfomhigielaaDoorHidxB
import Derived.Test.YtncmfomhigielaaDoorHidxI
import Derived.WalkSpells
import Derived.IntWalk
import Derived.Deep.AppendLies
import Derived.Deep.RegionHeld3
import Derived.Deep.RegionLaw
import Derived.Test.YtncmfomhigielaaDoorLregL
namespace Go.Proofs.YtncmfomhigielaaDoor.Q
open Go.RowKit Go.Proofs.YtncmfomhigielaaDoorW.PrintWords Go.Proofs.YtncmfomhigielaaDoorW.PrintLast Go.Proofs.YtncmfomhigielaaDoorW.PrintMore
attribute [local go_sem] max2_int min2_int max_two min_two max_three min_three max_four min_four   -- for this text's walks alone
set_option linter.unusedVariables false
set_option linter.unusedSimpArgs false

variable {S : Nat → Prop} {W : World} {g : Nat} {v1 v2 : Value} {ns : List ByteArray} {os : List Int} {room : Int}
theorem idx_infoStr : (Tryd.prog.info? 9).map (fun i => (i.zero, i.size, i.bytes)) = some (some (.string ⟨#[]⟩), 1, 16) := by kernel_rfl
/-- Behind the append to the names. -/
theorem put_app {wC Wc w1 : World} {name : ByteArray} {gn cap H : Nat} (hX : IxS S wC g v1 v2 ns os room) (hb : Below wC.heap.size wC Wc) (hown : w1.ownsRow 0 9 1 (.slice (some ⟨gn, 0, none⟩) (ns.length + 1) cap) (ns.length + 1) (encs Value.string ns ++ [.string name])) (hg : Wc.grownBy w1 v1.ownBlock) (hat : v1.ownBlock = some gn ∨ gn = H) (hH : Wc.heap.size = H) :
    Kd.R Kd.string 9 w1 0 (fun k => S k ∨ wC.heap.size ≤ k) (.slice (some ⟨gn, 0, none⟩) (ns.length + 1) cap) (ns ++ [name]) ∧ Kd.R (Kd.int .i64) 3 w1 0 S v2 os ∧ w1.heap[g]? = some (.cells #[v1, v2, .int .i64 room] 47 (0, 0)) ∧ (∀ (b : Nat) (cs : Array Value), Wc.heap[b]? = some (Obj.cells cs 3 (0, 0)) → w1.heap[b]? = some (Obj.cells cs 3 (0, 0))) ∧ Kept wC w1 S ∧ Below 0 wC w1 ∧ wC.heap.size ≤ w1.heap.size := by
  have hX1 := hX.below hb
  have hs := hb.size
  refine ⟨Kd.R_of_own (by rw [show (ns ++ [name]).length = ns.length + 1 by simp, encs_append]; exact hown) (fun q hq => ?_), Kd.R_over hX1.2.2.2 hX1.2.2.1 (by decide) hg, blk_grown hX1.1 hg (Kd.R_ne hX1.2.2.1 hX1.1 (by decide)), fun b cs h => blk_grown h hg (Kd.R_ne hX1.2.2.1 h (by decide)), (Kept.of_below hb S).of_grown hg (fun k hk => .inl (hX1.2.2.1.1 k hk)), ⟨hg.os.trans hb.os, hg.tape.trans hb.tape, hg.output.trans hb.output, Nat.le_trans hs hg.size, fun k hk => absurd hk (Nat.not_lt_zero _)⟩, Nat.le_trans hs hg.size⟩
  obtain rfl : gn = q := by simpa [Value.ownBlock] using hq
  rcases hat with h | h
  · exact .inl (hX1.2.2.1.1 _ h)
  · exact .inr (by omega)
theorem blk_new2 (w : World) (o1 : Obj) (cs : Array Value) (t : TypeId) (fr : Nat × Nat) : ((w.alloc o1).alloc (.cells cs t fr)).drew.heap[w.heap.size + 1]? = some (.cells cs t fr) := by
  have := blk_new (w.alloc o1) (.cells cs t fr)
  rwa [show (w.alloc o1).heap.size = w.heap.size + 1 by simp] at this
/-- Behind the insertion and the two stores. -/
theorem put_end {wC w1 Wi w2 : World} {v1' v2' : Value} {ns' : List ByteArray} {os' : List Int} {P1 : Prop} (hX : IxS S wC g v1 v2 ns os room) (h1 : Kd.R Kd.string 9 w1 0 (fun k => S k ∨ wC.heap.size ≤ k) v1' ns' ∧ Kd.R (Kd.int .i64) 3 w1 0 S v2 os ∧ w1.heap[g]? = some (.cells #[v1, v2, .int .i64 room] 47 (0, 0)) ∧ P1 ∧ Kept wC w1 S ∧ Below 0 wC w1 ∧ wC.heap.size ≤ w1.heap.size)
    (hb : Below w1.heap.size w1 Wi) (hR2 : Kd.R (Kd.int .i64) 3 w2 0 (fun k => S k ∨ wC.heap.size ≤ k) v2' os') (hg2 : Wi.grownBy w2 v2.ownBlock) :
    w2.heap[g]? = some (.cells #[v1, v2, .int .i64 room] 47 (0, 0)) ∧ IxS (fun k => S k ∨ wC.heap.size ≤ k) ((w2.setCell ⟨g, 0, none⟩ v1').setCell ⟨g, 1, none⟩ v2') g v1' v2' ns' os' room ∧ Kept wC ((w2.setCell ⟨g, 0, none⟩ v1').setCell ⟨g, 1, none⟩ v2') S ∧ Below 0 wC ((w2.setCell ⟨g, 0, none⟩ v1').setCell ⟨g, 1, none⟩ v2') := by
  obtain ⟨hN, hO, hG, _, hK, hB, hs⟩ := h1
  have hOi := Kd.R_below hO hb
  have hGi := blk_below hG hb
  have hG2 := blk_grown hGi hg2 (Kd.R_ne hOi hGi (by decide))
  have hN2 := Kd.R_over (Kd.R_below hN hb) hOi (by decide) hg2
  have hN3 := Kd.R_types hN2 hG2 (by decide)
  have hO3 := Kd.R_types hR2 hG2 (by decide)
  have hK2 : Kept wC w2 S := (hK.below hb).of_grown hg2 (fun k hk => .inl (hO.1 k hk))
  have hSg : S g := hX.2.1
  refine ⟨hG2, ⟨blk_put (blk_put hG2 0 v1' rfl) 1 v2' rfl, .inl hSg, Kd.R_mono (Kd.R_far (Kd.R_far hN3 (fun k hk => hk.2) v1') (fun k hk => hk.2) v2') (fun _ hk => hk.1), Kd.R_mono (Kd.R_far (Kd.R_far hO3 (fun k hk => hk.2) v1') (fun k hk => hk.2) v2') (fun _ hk => hk.1)⟩, (hK2.setCell (.inl hSg) v1').setCell (.inl hSg) v2', ?_⟩
  have h0 : Below 0 wC w2 := ⟨hg2.os.trans (hb.os.trans hB.os), hg2.tape.trans (hb.tape.trans hB.tape), hg2.output.trans (hb.output.trans hB.output), Nat.le_trans (Nat.le_trans hs hb.size) hg2.size, fun k hk => absurd hk (Nat.not_lt_zero _)⟩
  exact (h0.setCell (Nat.zero_le _) v1').setCell (Nat.zero_le _) v2'
theorem put_fin {wC w3 : World} {v1' v2' : Value} {ns' : List ByteArray} {os' : List Int} {P1 : Prop} (hX : IxS S wC g v1 v2 ns os room) (hWC : Below W.heap.size W wC) (h : P1 ∧ IxS (fun k => S k ∨ wC.heap.size ≤ k) w3 g v1' v2' ns' os' room ∧ Kept wC w3 S ∧ Below 0 wC w3) :
    IxS (fun k => S k ∨ W.heap.size ≤ k) w3 g v1' v2' ns' os' room ∧ Kept W w3 S ∧ Below 0 W w3 := by
  have hs := hWC.size
  refine ⟨h.2.1.mono (fun k hk => hk.imp id (fun h => by omega)), ⟨Nat.le_trans hs h.2.2.1.1, fun i hi hn => (h.2.2.1.2 i (Nat.lt_of_lt_of_le hi hs) hn).trans ((Kept.of_below hWC S).2 i hi hn)⟩, ?_⟩
  exact ⟨h.2.2.2.os.trans hWC.os, h.2.2.2.tape.trans hWC.tape, h.2.2.2.output.trans hWC.output, Nat.le_trans hs h.2.2.2.size, fun k hk => absurd hk (Nat.not_lt_zero _)⟩
set_option maxHeartbeats 4000000 in
set_option maxRecDepth 100000 in
theorem put_new (hI : IxS S W g v1 v2 ns os room) (hO : Okx ns os) (hns : ns.length ≤ 1000000) (name : ByteArray) (h1 : named name = true) (h2 : found (cfOf ns name) os = false) (h3 : (ns.length : Int) ≠ room) :
    Calls Tryd.prog 13 #[.pointer (some ⟨g, 0, none⟩), .string name] W fun e W' => e = .returned (.tuple #[.int .i64 ns.length, .int .i64 0]) ∧ ∃ v1' v2', IxS (fun k => S k ∨ W.heap.size ≤ k) W' g v1' v2' (ns ++ [name]) (os.take (ahead (cfOf ns name) os) ++ (ns.length : Int) :: os.drop (ahead (cfOf ns name) os)) room ∧ Kept W W' S ∧ Below 0 W W' := by
  have HP := Aside0.mk (place_any hI hO name)
  have HI := Aside0.mk hI
  have HOL := Aside0.mk hO.1
  have H1 := Aside0.mk h1
  have H2 := Aside0.mk h2
  have hlx : (((ns.length : Int) == room)) = false := beq_eq_false_iff_ne.2 h3
  clear hI hO h1 h2
  go_enter Tryd.func13, Tryd.ntmps13
  go_wp2_with fail
  refine HP.out.mono ?_
  rintro e wA ⟨rfl, hb⟩
  rw [H2.out]
  have HBA := Aside0.mk hb
  clear HP hb
  go_wp2_with fail
  refine (index_Named.calls name true wA (by unfold index_Named.f; rw [H1.out])).mono ?_
  rintro e wB ⟨rfl, hb⟩
  have HBB := Aside0.mk (below_step HBA.out hb)
  clear HBA hb
  have HIB := Aside0.mk (HI.out.below HBB.out)
  obtain ⟨A1, c1, e1, l1, C1⟩ := Kd.R_reads HIB.out.2.2.1
  subst e1
  have x0 := blk_cell HIB.out.1 0
  have x2 := blk_cell HIB.out.1 2
  go_wp2_with fail
  go_quiet (fail)
  go_wp2_with fail
  obtain ⟨wC, hwC⟩ : ∃ wC, wC = wB.drewN nq := ⟨_, rfl⟩
  have HX : Aside0 (IxS S wC g (.slice A1 ns.length c1) v2 ns os room) := ⟨by rw [hwC]; exact HIB.out.below (pw_below_drewN (Below.refl _ _) nq)⟩
  have HWC : Aside0 (Below W.heap.size W wC) := ⟨by rw [hwC]; exact pw_below_drewN HBB.out nq⟩
  rw [← hwC]
  clear hwC HIB C1 x0 x2 hlx
  have y0 := blk_cell HX.out.1 0
  have y1 := blk_cell HX.out.1 1
  have f0 := blk_frozen HX.out.1 0
  have f1 := blk_frozen HX.out.1 1
  have HOW : Aside0 (∀ W', Below wC.heap.size wC W' → W'.ownsRow 0 9 1 (.slice A1 ns.length c1) ns.length (encs Value.string ns)) := ⟨fun W' hb => Kd.own_of_R (Kd.R_below HX.out.2.2.1 hb)⟩
  obtain ⟨iS, hiS, hzS, hsS, hbS⟩ := info_parts idx_infoStr
  refine wp_region_noPanic ?_
  refine wp_region_late [19, 22] (fun w' => w'.cell? ⟨g, 0, none⟩ = some (.slice A1 ns.length c1) ∧ w'.cell? ⟨g, 1, none⟩ = some v2) (by kernel_rfl) ?_
  have HS0 : (fun w' : World => w'.cell? ⟨g, 0, none⟩ = some (.slice A1 ns.length c1) ∧ w'.cell? ⟨g, 1, none⟩ = some v2) wC.drew := ⟨y0, y1⟩
  refine wpL_takeT (i := 0) (v := ?v0) rfl (by kernel_rfl) (by kernel_rfl) (by kernel_rfl) (by kernel_rfl) (fun _ _ _ h => h) (Or.inl ⟨by rfl, ?hy0⟩) (fun _ => HS0) ?rest0
  case hy0 => (intro w hSw; (try dsimp only at hSw); go_simp; (first | done | with_reducible rfl))
  simp only [Act.put, List.getElem_toArray, List.getElem_cons_zero, List.getElem_cons_succ, List.setIfInBounds_toArray, List.set_cons_zero, List.set_cons_succ]
  refine wpL_takeT (i := 1) (v := ?v1) rfl (by kernel_rfl) (by kernel_rfl) (by kernel_rfl) (by kernel_rfl) (fun _ _ _ h => h) (Or.inl ⟨by rfl, ?hy1⟩) (fun _ => HS0) ?rest1
  case hy1 => (intro w hSw; (try dsimp only at hSw); go_simp; (first | done | with_reducible rfl))
  simp only [Act.put, List.getElem_toArray, List.getElem_cons_zero, List.getElem_cons_succ, List.setIfInBounds_toArray, List.set_cons_zero, List.set_cons_succ]
  refine wpL_takeT (i := 2) (v := ?v2) rfl (by kernel_rfl) (by kernel_rfl) (by kernel_rfl) (by kernel_rfl) (fun _ _ _ h => h) (Or.inl ⟨by rfl, ?hy2⟩) (fun _ => HS0) ?rest2
  case hy2 => (intro w hSw; (try dsimp only at hSw); go_simp; (first | done | with_reducible rfl))
  simp only [Act.put, List.getElem_toArray, List.getElem_cons_zero, List.getElem_cons_succ, List.setIfInBounds_toArray, List.set_cons_zero, List.set_cons_succ]
  refine wpL_takeT (i := 3) (v := ?v3) rfl (by kernel_rfl) (by kernel_rfl) (by kernel_rfl) (by kernel_rfl) (fun _ _ _ h => h) (Or.inl ⟨by rfl, ?hy3⟩) (fun _ => HS0) ?rest3
  case hy3 => (intro w hSw; (try dsimp only at hSw); go_simp; (first | done | with_reducible rfl))
  simp only [Act.put, List.getElem_toArray, List.getElem_cons_zero, List.getElem_cons_succ, List.setIfInBounds_toArray, List.set_cons_zero, List.set_cons_succ]
  refine wpL_takeT (i := 4) (v := ?v4) rfl (by kernel_rfl) (by kernel_rfl) (by kernel_rfl) (by kernel_rfl) (fun _ _ _ h => h) (Or.inl ⟨by rfl, ?hy4⟩) (fun _ => HS0) ?rest4
  case hy4 => (intro w hSw; (try dsimp only at hSw); go_simp; (first | done | with_reducible rfl))
  simp only [Act.put, List.getElem_toArray, List.getElem_cons_zero, List.getElem_cons_succ, List.setIfInBounds_toArray, List.set_cons_zero, List.set_cons_succ]
  refine wpL_take (i := 5) (v := ?v5) rfl (by kernel_rfl) (by kernel_rfl) (by kernel_rfl) (by kernel_rfl) (by kernel_rfl) (by kernel_rfl) (fun _ _ _ h => h) (Or.inl ⟨by rfl, ?hy5⟩) HS0 ?rest5
  case hy5 => (intro w hSw; (try dsimp only at hSw); go_simp; (first | done | with_reducible rfl))
  simp only [Act.put, List.getElem_toArray, List.getElem_cons_zero, List.getElem_cons_succ, List.setIfInBounds_toArray, List.set_cons_zero, List.set_cons_succ]
  refine wpL_takeT (i := 6) (v := ?v6) rfl (by kernel_rfl) (by kernel_rfl) (by kernel_rfl) (by kernel_rfl) (fun _ _ _ h => h) (Or.inl ⟨by rfl, ?hy6⟩) (fun _ => HS0) ?rest6
  case hy6 => (intro w hSw; (try dsimp only at hSw); go_simp; (first | done | with_reducible rfl))
  simp only [Act.put, List.getElem_toArray, List.getElem_cons_zero, List.getElem_cons_succ, List.setIfInBounds_toArray, List.set_cons_zero, List.set_cons_succ]
  refine wpL_takeT (i := 9) (v := ?v9) rfl (by kernel_rfl) (by kernel_rfl) (by kernel_rfl) (by kernel_rfl) (fun _ _ _ h => h) (Or.inl ⟨by rfl, ?hy9⟩) (fun _ => HS0) ?rest9
  case hy9 => (intro w hSw; (try dsimp only at hSw); go_simp; (first | done | with_reducible rfl))
  simp only [Act.put, List.getElem_toArray, List.getElem_cons_zero, List.getElem_cons_succ, List.setIfInBounds_toArray, List.set_cons_zero, List.set_cons_succ]
  refine wpL_takeT (i := 10) (v := ?v10) rfl (by kernel_rfl) (by kernel_rfl) (by kernel_rfl) (by kernel_rfl) (fun _ _ _ h => h) (Or.inl ⟨by rfl, ?hy10⟩) (fun _ => HS0) ?rest10
  case hy10 => (intro w hSw; (try dsimp only at hSw); go_simp; (first | done | with_reducible rfl))
  simp only [Act.put, List.getElem_toArray, List.getElem_cons_zero, List.getElem_cons_succ, List.setIfInBounds_toArray, List.set_cons_zero, List.set_cons_succ]
  refine wpL_takeT (i := 11) (v := ?v11) rfl (by kernel_rfl) (by kernel_rfl) (by kernel_rfl) (by kernel_rfl) (fun _ _ _ h => h) (Or.inl ⟨by rfl, ?hy11⟩) (fun _ => HS0) ?rest11
  case hy11 => (intro w hSw; (try dsimp only at hSw); go_simp; (first | done | with_reducible rfl))
  simp only [Act.put, List.getElem_toArray, List.getElem_cons_zero, List.getElem_cons_succ, List.setIfInBounds_toArray, List.set_cons_zero, List.set_cons_succ]
  refine wpL_take (i := 12) (v := ?v12) rfl (by kernel_rfl) (by kernel_rfl) (by kernel_rfl) (by kernel_rfl) (by kernel_rfl) (by kernel_rfl) (fun _ _ _ h => h) (Or.inl ⟨by rfl, ?hy12⟩) HS0 ?rest12
  case hy12 => (intro w hSw; (try dsimp only at hSw); go_simp; (first | done | with_reducible rfl))
  simp only [Act.put, List.getElem_toArray, List.getElem_cons_zero, List.getElem_cons_succ, List.setIfInBounds_toArray, List.set_cons_zero, List.set_cons_succ]
  refine wpL_takeT (i := 13) (v := ?v13) rfl (by kernel_rfl) (by kernel_rfl) (by kernel_rfl) (by kernel_rfl) (fun _ _ _ h => h) (Or.inl ⟨by rfl, ?hy13⟩) (fun _ => HS0) ?rest13
  case hy13 => (intro w hSw; (try dsimp only at hSw); go_simp; (first | done | with_reducible rfl))
  simp only [Act.put, List.getElem_toArray, List.getElem_cons_zero, List.getElem_cons_succ, List.setIfInBounds_toArray, List.set_cons_zero, List.set_cons_succ]
  refine wpL_takeT (i := 14) (v := ?v14) rfl (by kernel_rfl) (by kernel_rfl) (by kernel_rfl) (by kernel_rfl) (fun _ _ _ h => h) (Or.inl ⟨by rfl, ?hy14⟩) (fun _ => HS0) ?rest14
  case hy14 => (intro w hSw; (try dsimp only at hSw); go_simp; (first | done | with_reducible rfl))
  simp only [Act.put, List.getElem_toArray, List.getElem_cons_zero, List.getElem_cons_succ, List.setIfInBounds_toArray, List.set_cons_zero, List.set_cons_succ]
  have HL : Aside0 (os.length ≤ 1000000) := HOL
  have HAO : Aside0 (ahead (cfOf ns name) os ≤ os.length) := ⟨List.countP_le_length⟩
  have HSB : Aside0 (∀ W', Below wC.heap.size wC W' → W'.cell? ⟨g, 0, none⟩ = some (.slice A1 ns.length c1) ∧ W'.cell? ⟨g, 1, none⟩ = some v2) := ⟨fun W' hb => ⟨blk_cell (blk_below HX.out.1 hb) 0, blk_cell (blk_below HX.out.1 hb) 1⟩⟩
  -- REGION
  -- REGION
  -- REGION
  -- REGION
  -- REGION
  refine wpL_ready (rs := [7, 15]) (by kernel_rfl) (by simp) (AllL.cons rfl (fun K hK => ?_) (AllL.cons rfl (fun K hK => ?_) AllL.nil))
  · skip
    go_simp
    refine hK.out _ _ (HSB.out _ (by repeat (first | exact Below.refl _ _ | refine below_drew ?_ | refine below_alloc ?_ _))) ?_
    clear hK K
    try simp only [Act.put, List.getElem_toArray, List.getElem_cons_zero, List.getElem_cons_succ, List.setIfInBounds_toArray, List.set_cons_zero, List.set_cons_succ]
    refine wpL_ready (rs := [8, 15]) (by kernel_rfl) (by simp) (AllL.cons rfl (fun K hK => ?_) (AllL.cons rfl (fun K hK => ?_) AllL.nil))
    · skip
      refine step_append_lies _ (by rfl) (.tmp 42) (.tmp 44) 24 (by rfl) 0 9 iS (.string ⟨#[]⟩) 1 16 Tryd.underlying24 hiS hzS hsS hbS rfl (by decide) (.slice A1 ns.length c1) ns.length (encs Value.string ns) (by rfl) (HOW.out _ (by repeat (first | exact Below.refl _ _ | refine below_drew ?_ | refine below_alloc ?_ _))) _ 1 1 [.string name] (by rfl) rfl (World.news_of_block (cs := #[.string name]) (t := 9) (fr := (0, 0)) (by first | exact blk_new wC _ | exact blk_alloc (blk_new wC _) _ | exact blk_new (wC.alloc _) _ | exact blk_new2 wC _ _ _ _)) (fun u hu => by rw [List.mem_singleton.1 hu]; rfl) (by omega) (by have : maxLen = 9223372036854775807 := rfl; omega) (by omega) (Nat.zero_le _) _ rfl ?_
      intro gn cap w1 hown hgrow hat hlt; have HP1 := Aside0.mk (put_app HX.out (by repeat (first | exact Below.refl _ _ | refine below_drew ?_ | refine below_alloc ?_ _)) hown hgrow hat rfl); have z0 := blk_cell HP1.out.2.2.1 0; have z1 := blk_cell HP1.out.2.2.1 1; have zf0 := blk_frozen HP1.out.2.2.1 0; have zf1 := blk_frozen HP1.out.2.2.1 1; clear hown hgrow hat hlt
      refine hK.out _ _ ⟨z0, z1⟩ ?_
      clear hK K
      try simp only [Act.put, List.getElem_toArray, List.getElem_cons_zero, List.getElem_cons_succ, List.setIfInBounds_toArray, List.set_cons_zero, List.set_cons_succ]
      refine wpL_ready (rs := [15]) (by kernel_rfl) (by simp) (AllL.cons rfl (fun K hK => ?_) AllL.nil)
      go_simp
      refine hK.out _ _ ⟨blk_cell (blk_alloc HP1.out.2.2.1 _) 0, blk_cell (blk_alloc HP1.out.2.2.1 _) 1⟩ ?_
      clear hK K
      try simp only [Act.put, List.getElem_toArray, List.getElem_cons_zero, List.getElem_cons_succ, List.setIfInBounds_toArray, List.set_cons_zero, List.set_cons_succ]
      refine wpL_ready (rs := [16]) (by kernel_rfl) (by simp) (AllL.cons rfl (fun K hK => ?_) AllL.nil)
      go_simp
      refine (insert_any _ v2 os (fun k => S k ∨ wC.heap.size ≤ k) (Kd.R_mono (Kd.R_alloc HP1.out.2.1 _) (fun _ hk => .inl hk)) (ahead (cfOf ns name) os) HAO.out (ns.length : Int) _ (blk_new w1 _) (fun e => by have h1 := Kd.R_lt HX.out.2.2.2 _ e.symm; have h2 := HP1.out.2.2.2.2.2.2; first | omega | (simp at h1; done) | (simp at h1; omega)) (fun k hk => .inr (by have h2 := HP1.out.2.2.2.2.2.2; first | omega | (simp at hk; omega))) HL.out).mono ?_
      rintro e w2 ⟨v2', rfl, hR2, hg2, hat2⟩
      obtain ⟨A2, n2, c2, e2⟩ : ∃ A2 n2 c2, v2' = .slice A2 n2 c2 := by obtain ⟨A2, c2, e2, _⟩ := Kd.R_reads hR2; exact ⟨_, _, _, e2⟩
      subst e2
      have HE := Aside0.mk (put_end HX.out HP1.out (below_alloc (Below.refl _ _) _) hR2 hg2)
      have u0 := blk_cell HE.out.1 0
      have u1 := blk_cell HE.out.1 1
      have uf0 := blk_frozen HE.out.1 0
      have uf1 := blk_frozen HE.out.1 1
      try simp only [Act.put, List.getElem_toArray, List.getElem_cons_zero, List.getElem_cons_succ, List.setIfInBounds_toArray, List.set_cons_zero, List.set_cons_succ]
      go_wp2_with fail
      refine hK.out _ _ ⟨u0, u1⟩ ?_
      clear hK K hR2 hg2 hat2
      try simp only [Act.put, List.getElem_toArray, List.getElem_cons_zero, List.getElem_cons_succ, List.setIfInBounds_toArray, List.set_cons_zero, List.set_cons_succ]
      refine wpL_ready (rs := [17]) (by kernel_rfl) (by simp) (AllL.cons rfl (fun K hK => ?_) AllL.nil)
      go_simp
      refine hK.out _ _ ⟨u0, u1⟩ ?_
      clear hK K
      try simp only [Act.put, List.getElem_toArray, List.getElem_cons_zero, List.getElem_cons_succ, List.setIfInBounds_toArray, List.set_cons_zero, List.set_cons_succ]
      refine wpL_ready (rs := [18]) (by kernel_rfl) (by simp) (AllL.cons rfl (fun K hK => ?_) AllL.nil)
      go_simp
      refine hK.out _ _ ⟨u0, u1⟩ ?_
      clear hK K
      try simp only [Act.put, List.getElem_toArray, List.getElem_cons_zero, List.getElem_cons_succ, List.setIfInBounds_toArray, List.set_cons_zero, List.set_cons_succ]
      refine wpL_ready (rs := [19]) (by kernel_rfl) (by simp) (AllL.late rfl (by kernel_rfl) (fun K hK => ?_) AllL.nil)
      go_simp
      refine hK.out _ _ ?_
      clear hK K
      try simp only [Act.put, List.getElem_toArray, List.getElem_cons_zero, List.getElem_cons_succ, List.setIfInBounds_toArray, List.set_cons_zero, List.set_cons_succ]
      refine wpL_ready (rs := [20]) (by kernel_rfl) (by simp) (AllL.late rfl (by kernel_rfl) (fun K hK => ?_) AllL.nil)
      go_simp
      refine hK.out _ _ ?_
      clear hK K
      try simp only [Act.put, List.getElem_toArray, List.getElem_cons_zero, List.getElem_cons_succ, List.setIfInBounds_toArray, List.set_cons_zero, List.set_cons_succ]
      refine wpL_ready (rs := [21]) (by kernel_rfl) (by simp) (AllL.late rfl (by kernel_rfl) (fun K hK => ?_) AllL.nil)
      go_simp
      refine hK.out _ _ ?_
      clear hK K
      try simp only [Act.put, List.getElem_toArray, List.getElem_cons_zero, List.getElem_cons_succ, List.setIfInBounds_toArray, List.set_cons_zero, List.set_cons_succ]
      refine wpL_ready (rs := [22]) (by kernel_rfl) (by simp) (AllL.late rfl (by kernel_rfl) (fun K hK => ?_) AllL.nil)
      go_simp
      refine hK.out _ _ ?_
      clear hK K
      try simp only [Act.put, List.getElem_toArray, List.getElem_cons_zero, List.getElem_cons_succ, List.setIfInBounds_toArray, List.set_cons_zero, List.set_cons_succ]
      refine wpL_done (by kernel_rfl) (NoPanic.normal ?_) _
      have HF := Aside0.mk (put_fin HX.out HWC.out HE.out)
      clear HE
      go_wp2
      go_ret2
      exact ⟨rfl, _, _, HF.out⟩
    · skip
      go_simp
      refine hK.out _ _ (HSB.out _ (by repeat (first | exact Below.refl _ _ | refine below_drew ?_ | refine below_alloc ?_ _))) ?_
      clear hK K
      try simp only [Act.put, List.getElem_toArray, List.getElem_cons_zero, List.getElem_cons_succ, List.setIfInBounds_toArray, List.set_cons_zero, List.set_cons_succ]
      refine wpL_ready (rs := [8]) (by kernel_rfl) (by simp) (AllL.cons rfl (fun K hK => ?_) AllL.nil)
      refine step_append_lies _ (by rfl) (.tmp 42) (.tmp 44) 24 (by rfl) 0 9 iS (.string ⟨#[]⟩) 1 16 Tryd.underlying24 hiS hzS hsS hbS rfl (by decide) (.slice A1 ns.length c1) ns.length (encs Value.string ns) (by rfl) (HOW.out _ (by repeat (first | exact Below.refl _ _ | refine below_drew ?_ | refine below_alloc ?_ _))) _ 1 1 [.string name] (by rfl) rfl (World.news_of_block (cs := #[.string name]) (t := 9) (fr := (0, 0)) (by first | exact blk_new wC _ | exact blk_alloc (blk_new wC _) _ | exact blk_new (wC.alloc _) _ | exact blk_new2 wC _ _ _ _)) (fun u hu => by rw [List.mem_singleton.1 hu]; rfl) (by omega) (by have : maxLen = 9223372036854775807 := rfl; omega) (by omega) (Nat.zero_le _) _ rfl ?_
      intro gn cap w1 hown hgrow hat hlt; have HP1 := Aside0.mk (put_app HX.out (by repeat (first | exact Below.refl _ _ | refine below_drew ?_ | refine below_alloc ?_ _)) hown hgrow hat rfl); have z0 := blk_cell HP1.out.2.2.1 0; have z1 := blk_cell HP1.out.2.2.1 1; have zf0 := blk_frozen HP1.out.2.2.1 0; have zf1 := blk_frozen HP1.out.2.2.1 1; clear hown hgrow hat hlt
      refine hK.out _ _ ⟨z0, z1⟩ ?_
      clear hK K
      try simp only [Act.put, List.getElem_toArray, List.getElem_cons_zero, List.getElem_cons_succ, List.setIfInBounds_toArray, List.set_cons_zero, List.set_cons_succ]
      refine wpL_ready (rs := [16]) (by kernel_rfl) (by simp) (AllL.cons rfl (fun K hK => ?_) AllL.nil)
      go_simp
      refine (insert_any _ v2 os (fun k => S k ∨ wC.heap.size ≤ k) (Kd.R_mono (HP1.out.2.1) (fun _ hk => .inl hk)) (ahead (cfOf ns name) os) HAO.out (ns.length : Int) _ (HP1.out.2.2.2.1 _ _ (by first | exact blk_new _ _ | exact blk_new2 _ _ _ _ _ | exact blk_alloc (blk_new _ _) _)) (fun e => by have h1 := Kd.R_lt HX.out.2.2.2 _ e.symm; have h2 := HP1.out.2.2.2.2.2.2; first | omega | (simp at h1; done) | (simp at h1; omega)) (fun k hk => .inr (by have h2 := HP1.out.2.2.2.2.2.2; first | omega | (simp at hk; omega))) HL.out).mono ?_
      rintro e w2 ⟨v2', rfl, hR2, hg2, hat2⟩
      obtain ⟨A2, n2, c2, e2⟩ : ∃ A2 n2 c2, v2' = .slice A2 n2 c2 := by obtain ⟨A2, c2, e2, _⟩ := Kd.R_reads hR2; exact ⟨_, _, _, e2⟩
      subst e2
      have HE := Aside0.mk (put_end HX.out HP1.out (Below.refl _ _) hR2 hg2)
      have u0 := blk_cell HE.out.1 0
      have u1 := blk_cell HE.out.1 1
      have uf0 := blk_frozen HE.out.1 0
      have uf1 := blk_frozen HE.out.1 1
      try simp only [Act.put, List.getElem_toArray, List.getElem_cons_zero, List.getElem_cons_succ, List.setIfInBounds_toArray, List.set_cons_zero, List.set_cons_succ]
      go_wp2_with fail
      refine hK.out _ _ ⟨u0, u1⟩ ?_
      clear hK K hR2 hg2 hat2
      try simp only [Act.put, List.getElem_toArray, List.getElem_cons_zero, List.getElem_cons_succ, List.setIfInBounds_toArray, List.set_cons_zero, List.set_cons_succ]
      refine wpL_ready (rs := [17]) (by kernel_rfl) (by simp) (AllL.cons rfl (fun K hK => ?_) AllL.nil)
      go_simp
      refine hK.out _ _ ⟨u0, u1⟩ ?_
      clear hK K
      try simp only [Act.put, List.getElem_toArray, List.getElem_cons_zero, List.getElem_cons_succ, List.setIfInBounds_toArray, List.set_cons_zero, List.set_cons_succ]
      refine wpL_ready (rs := [18]) (by kernel_rfl) (by simp) (AllL.cons rfl (fun K hK => ?_) AllL.nil)
      go_simp
      refine hK.out _ _ ⟨u0, u1⟩ ?_
      clear hK K
      try simp only [Act.put, List.getElem_toArray, List.getElem_cons_zero, List.getElem_cons_succ, List.setIfInBounds_toArray, List.set_cons_zero, List.set_cons_succ]
      refine wpL_ready (rs := [19]) (by kernel_rfl) (by simp) (AllL.late rfl (by kernel_rfl) (fun K hK => ?_) AllL.nil)
      go_simp
      refine hK.out _ _ ?_
      clear hK K
      try simp only [Act.put, List.getElem_toArray, List.getElem_cons_zero, List.getElem_cons_succ, List.setIfInBounds_toArray, List.set_cons_zero, List.set_cons_succ]
      refine wpL_ready (rs := [20]) (by kernel_rfl) (by simp) (AllL.late rfl (by kernel_rfl) (fun K hK => ?_) AllL.nil)
      go_simp
      refine hK.out _ _ ?_
      clear hK K
      try simp only [Act.put, List.getElem_toArray, List.getElem_cons_zero, List.getElem_cons_succ, List.setIfInBounds_toArray, List.set_cons_zero, List.set_cons_succ]
      refine wpL_ready (rs := [21]) (by kernel_rfl) (by simp) (AllL.late rfl (by kernel_rfl) (fun K hK => ?_) AllL.nil)
      go_simp
      refine hK.out _ _ ?_
      clear hK K
      try simp only [Act.put, List.getElem_toArray, List.getElem_cons_zero, List.getElem_cons_succ, List.setIfInBounds_toArray, List.set_cons_zero, List.set_cons_succ]
      refine wpL_ready (rs := [22]) (by kernel_rfl) (by simp) (AllL.late rfl (by kernel_rfl) (fun K hK => ?_) AllL.nil)
      go_simp
      refine hK.out _ _ ?_
      clear hK K
      try simp only [Act.put, List.getElem_toArray, List.getElem_cons_zero, List.getElem_cons_succ, List.setIfInBounds_toArray, List.set_cons_zero, List.set_cons_succ]
      refine wpL_done (by kernel_rfl) (NoPanic.normal ?_) _
      have HF := Aside0.mk (put_fin HX.out HWC.out HE.out)
      clear HE
      go_wp2
      go_ret2
      exact ⟨rfl, _, _, HF.out⟩
  · skip
    go_simp
    refine hK.out _ _ (HSB.out _ (by repeat (first | exact Below.refl _ _ | refine below_drew ?_ | refine below_alloc ?_ _))) ?_
    clear hK K
    try simp only [Act.put, List.getElem_toArray, List.getElem_cons_zero, List.getElem_cons_succ, List.setIfInBounds_toArray, List.set_cons_zero, List.set_cons_succ]
    refine wpL_ready (rs := [7]) (by kernel_rfl) (by simp) (AllL.cons rfl (fun K hK => ?_) AllL.nil)
    go_simp
    refine hK.out _ _ (HSB.out _ (by repeat (first | exact Below.refl _ _ | refine below_drew ?_ | refine below_alloc ?_ _))) ?_
    clear hK K
    try simp only [Act.put, List.getElem_toArray, List.getElem_cons_zero, List.getElem_cons_succ, List.setIfInBounds_toArray, List.set_cons_zero, List.set_cons_succ]
    refine wpL_ready (rs := [8]) (by kernel_rfl) (by simp) (AllL.cons rfl (fun K hK => ?_) AllL.nil)
    refine step_append_lies _ (by rfl) (.tmp 42) (.tmp 44) 24 (by rfl) 0 9 iS (.string ⟨#[]⟩) 1 16 Tryd.underlying24 hiS hzS hsS hbS rfl (by decide) (.slice A1 ns.length c1) ns.length (encs Value.string ns) (by rfl) (HOW.out _ (by repeat (first | exact Below.refl _ _ | refine below_drew ?_ | refine below_alloc ?_ _))) _ 1 1 [.string name] (by rfl) rfl (World.news_of_block (cs := #[.string name]) (t := 9) (fr := (0, 0)) (by first | exact blk_new wC _ | exact blk_alloc (blk_new wC _) _ | exact blk_new (wC.alloc _) _ | exact blk_new2 wC _ _ _ _)) (fun u hu => by rw [List.mem_singleton.1 hu]; rfl) (by omega) (by have : maxLen = 9223372036854775807 := rfl; omega) (by omega) (Nat.zero_le _) _ rfl ?_
    intro gn cap w1 hown hgrow hat hlt; have HP1 := Aside0.mk (put_app HX.out (by repeat (first | exact Below.refl _ _ | refine below_drew ?_ | refine below_alloc ?_ _)) hown hgrow hat rfl); have z0 := blk_cell HP1.out.2.2.1 0; have z1 := blk_cell HP1.out.2.2.1 1; have zf0 := blk_frozen HP1.out.2.2.1 0; have zf1 := blk_frozen HP1.out.2.2.1 1; clear hown hgrow hat hlt
    refine hK.out _ _ ⟨z0, z1⟩ ?_
    clear hK K
    try simp only [Act.put, List.getElem_toArray, List.getElem_cons_zero, List.getElem_cons_succ, List.setIfInBounds_toArray, List.set_cons_zero, List.set_cons_succ]
    refine wpL_ready (rs := [16]) (by kernel_rfl) (by simp) (AllL.cons rfl (fun K hK => ?_) AllL.nil)
    go_simp
    refine (insert_any _ v2 os (fun k => S k ∨ wC.heap.size ≤ k) (Kd.R_mono (HP1.out.2.1) (fun _ hk => .inl hk)) (ahead (cfOf ns name) os) HAO.out (ns.length : Int) _ (HP1.out.2.2.2.1 _ _ (by first | exact blk_new _ _ | exact blk_new2 _ _ _ _ _ | exact blk_alloc (blk_new _ _) _)) (fun e => by have h1 := Kd.R_lt HX.out.2.2.2 _ e.symm; have h2 := HP1.out.2.2.2.2.2.2; first | omega | (simp at h1; done) | (simp at h1; omega)) (fun k hk => .inr (by have h2 := HP1.out.2.2.2.2.2.2; first | omega | (simp at hk; omega))) HL.out).mono ?_
    rintro e w2 ⟨v2', rfl, hR2, hg2, hat2⟩
    obtain ⟨A2, n2, c2, e2⟩ : ∃ A2 n2 c2, v2' = .slice A2 n2 c2 := by obtain ⟨A2, c2, e2, _⟩ := Kd.R_reads hR2; exact ⟨_, _, _, e2⟩
    subst e2
    have HE := Aside0.mk (put_end HX.out HP1.out (Below.refl _ _) hR2 hg2)
    have u0 := blk_cell HE.out.1 0
    have u1 := blk_cell HE.out.1 1
    have uf0 := blk_frozen HE.out.1 0
    have uf1 := blk_frozen HE.out.1 1
    try simp only [Act.put, List.getElem_toArray, List.getElem_cons_zero, List.getElem_cons_succ, List.setIfInBounds_toArray, List.set_cons_zero, List.set_cons_succ]
    go_wp2_with fail
    refine hK.out _ _ ⟨u0, u1⟩ ?_
    clear hK K hR2 hg2 hat2
    try simp only [Act.put, List.getElem_toArray, List.getElem_cons_zero, List.getElem_cons_succ, List.setIfInBounds_toArray, List.set_cons_zero, List.set_cons_succ]
    refine wpL_ready (rs := [17]) (by kernel_rfl) (by simp) (AllL.cons rfl (fun K hK => ?_) AllL.nil)
    go_simp
    refine hK.out _ _ ⟨u0, u1⟩ ?_
    clear hK K
    try simp only [Act.put, List.getElem_toArray, List.getElem_cons_zero, List.getElem_cons_succ, List.setIfInBounds_toArray, List.set_cons_zero, List.set_cons_succ]
    refine wpL_ready (rs := [18]) (by kernel_rfl) (by simp) (AllL.cons rfl (fun K hK => ?_) AllL.nil)
    go_simp
    refine hK.out _ _ ⟨u0, u1⟩ ?_
    clear hK K
    try simp only [Act.put, List.getElem_toArray, List.getElem_cons_zero, List.getElem_cons_succ, List.setIfInBounds_toArray, List.set_cons_zero, List.set_cons_succ]
    refine wpL_ready (rs := [19]) (by kernel_rfl) (by simp) (AllL.late rfl (by kernel_rfl) (fun K hK => ?_) AllL.nil)
    go_simp
    refine hK.out _ _ ?_
    clear hK K
    try simp only [Act.put, List.getElem_toArray, List.getElem_cons_zero, List.getElem_cons_succ, List.setIfInBounds_toArray, List.set_cons_zero, List.set_cons_succ]
    refine wpL_ready (rs := [20]) (by kernel_rfl) (by simp) (AllL.late rfl (by kernel_rfl) (fun K hK => ?_) AllL.nil)
    go_simp
    refine hK.out _ _ ?_
    clear hK K
    try simp only [Act.put, List.getElem_toArray, List.getElem_cons_zero, List.getElem_cons_succ, List.setIfInBounds_toArray, List.set_cons_zero, List.set_cons_succ]
    refine wpL_ready (rs := [21]) (by kernel_rfl) (by simp) (AllL.late rfl (by kernel_rfl) (fun K hK => ?_) AllL.nil)
    go_simp
    refine hK.out _ _ ?_
    clear hK K
    try simp only [Act.put, List.getElem_toArray, List.getElem_cons_zero, List.getElem_cons_succ, List.setIfInBounds_toArray, List.set_cons_zero, List.set_cons_succ]
    refine wpL_ready (rs := [22]) (by kernel_rfl) (by simp) (AllL.late rfl (by kernel_rfl) (fun K hK => ?_) AllL.nil)
    go_simp
    refine hK.out _ _ ?_
    clear hK K
    try simp only [Act.put, List.getElem_toArray, List.getElem_cons_zero, List.getElem_cons_succ, List.setIfInBounds_toArray, List.set_cons_zero, List.set_cons_succ]
    refine wpL_done (by kernel_rfl) (NoPanic.normal ?_) _
    have HF := Aside0.mk (put_fin HX.out HWC.out HE.out)
    clear HE
    go_wp2
    go_ret2
    exact ⟨rfl, _, _, HF.out⟩
end Go.Proofs.YtncmfomhigielaaDoor.Q
