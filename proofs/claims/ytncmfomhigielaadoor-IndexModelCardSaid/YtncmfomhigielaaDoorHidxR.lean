-- The reference's sorted names: walked by hand.
-- NEEDS pendulum/pendulumref03.Find
import Derived.Test.YtncmfomhigielaaDoorQ0
import Derived.Test.YtncmfomhigielaaDoorHidxB
import Derived.Test.YtncmfomhigielaaDoorLidxM
import Derived.Test.YtncmfomhigielaaDoorLregL
import Derived.Test.YtncmfomhigielaaDoorLidxM
import Derived.Test.YtncmfomhigielaaDoorLregL
import Derived.Deep.RegionHeld3
import Derived.WalkSpells
import Derived.IntWalk
namespace Go.Proofs.YtncmfomhigielaaDoor.Q
open Go.RowKit Go.Proofs.YtncmfomhigielaaDoorW.PrintWords Go.Proofs.YtncmfomhigielaaDoorW.PrintLast Go.Proofs.YtncmfomhigielaaDoorW.PrintMore
attribute [local go_sem] max2_int min2_int max_two min_two max_three min_three max_four min_four   -- for this text's walks alone
set_option linter.unusedVariables false
set_option linter.unusedSimpArgs false

theorem ne_new {α : Type} {d : Kd α} {e base : Nat} {ok : Nat → Prop} {W : World} {v v2 : Value} {xs : List α} (h : d.R e W base ok v xs) (hat : ∃ b, v2.ownBlock = some b ∧ W.heap.size ≤ b) : ∀ k, v.ownBlock = some k → some k ≠ v2.ownBlock := fun k hk e => by
  obtain ⟨b, hb, hs⟩ := hat
  have h1 := Kd.R_lt h k hk
  rw [hb] at e
  cases e
  omega
theorem ne_old {α : Type} {d : Kd α} {e base : Nat} {ok : Nat → Prop} {W : World} {v v2 : Value} {xs : List α} (h : d.R e W base ok v xs) (hat : ∃ b, v2.ownBlock = some b ∧ W.heap.size ≤ b) : ∀ k, v2.ownBlock = some k → some k ≠ v.ownBlock := fun k hk e => ne_new h hat k e.symm hk.symm
theorem ne_app {α : Type} {d : Kd α} {e base : Nat} {ok : Nat → Prop} {W : World} {v v1 vb : Value} {xs : List α} (h : d.R e W base ok vb xs) (hne : ∀ k, v.ownBlock = some k → some k ≠ vb.ownBlock) (hat : v1.ownBlock = v.ownBlock ∨ ∃ b, v1.ownBlock = some b ∧ W.heap.size ≤ b) : ∀ k, v1.ownBlock = some k → some k ≠ vb.ownBlock := fun k hk => by
  rcases hat with hat | hat
  · exact hne k (hat ▸ hk)
  · exact ne_old h hat k hk
theorem lower_is {l : List ByteArray} (hu : Up l) (x : ByteArray) (k : Nat) (hk : k ≤ l.length) (h1 : ∀ t : Nat, t < k → cmpS (rdOf ByteArray.empty l (t : Int)) x < 0) (h2 : k < l.length → ¬ cmpS (rdOf ByteArray.empty l (k : Int)) x < 0) : lower x l = k := by
  obtain ⟨c1, c2⟩ := up_cut x l hu
  have hg : ∀ t : Nat, ∀ h : t < l.length, rdOf ByteArray.empty l (t : Int) = l[t] := fun t h => by simp [rdOf, List.getD_eq_getElem?_getD, List.getElem?_eq_getElem h]
  have hle := lower_le x l
  rcases Nat.lt_trichotomy (lower x l) k with h | h | h
  · have hm : l[lower x l]'(by omega) ∈ l.drop (lower x l) := List.mem_of_getElem? (i := 0) (by rw [List.getElem?_drop, Nat.add_zero, List.getElem?_eq_getElem (by omega)])
    have := c2 _ hm
    have h3 := h1 _ h
    rw [hg _ (by omega)] at h3
    omega
  · exact h
  · have hm : l[k]'(by omega) ∈ l.take (lower x l) := List.mem_of_getElem? (i := k) (by rw [List.getElem?_take, if_pos h, List.getElem?_eq_getElem (by omega)])
    have h3 := c1 _ hm
    have h4 := h2 (by omega)
    rw [hg _ (by omega)] at h4
    exact absurd h3 h4
theorem idx_infoStr2 : ∃ i, Tryd.prog.info? 9 = some i ∧ i.size = 1 := by
  obtain ⟨i, h1, _, h3, _⟩ := info_parts idx_infoS
  exact ⟨i, h1, h3⟩
set_option maxHeartbeats 4000000 in
set_option maxRecDepth 100000 in
theorem refsorted_ask (A : Option Addr) (c : Nat) (ns : List ByteArray) (W : World) (hC : Kd.C Kd.string W A ns.length ns) (hc : ns.length ≤ c) (hl : ns.length ≤ 1000000) :
    Calls Tryd.prog 19 #[.slice A ns.length c] W fun e W' => ∃ v : Value, e = .returned v ∧ Kd.R Kd.string 9 W' W.heap.size (fun _ => True) v (srt ns) ∧ Below W.heap.size W W' := by
  have HC := Aside0.mk hC
  clear hC
  obtain ⟨iS, hiS, hsS⟩ := idx_infoStr2
  go_enter Tryd.func19, Tryd.ntmps19
  go_wp2
  go_loopg [3, 4] ns.length (fun kq v3 v4 w' => ∃ i : Nat, v4 = .int .i64 i ∧ i + kq = ns.length ∧ Aside0 (Kd.R Kd.string 9 w' W.heap.size (fun _ => True) v3 (srt (ns.take i))) ∧ Aside0 (Below W.heap.size W w'))
  case atStart => exact ⟨0, rfl, by omega, ⟨Kd.R_nil _ _ _ _ _⟩, ⟨Below.refl _ _⟩⟩
  case round =>
    obtain ⟨i, rfl, hik, HR, HBW⟩ := hrel
    by_cases hlt : i < ns.length
    · have hd : decide ((i : Int) < (ns.length : Int)) = true := by simp; omega
      obtain ⟨adl, e, hx⟩ := Kd.at_string HC.out (i : Int) (by omega) (by omega)
      cases e
      replace hx := pw_cell_below HBW.out hx
      simp only [Int.toNat_natCast] at hx
      have HINS : Aside0 (srt (ns.take (i + 1)) = ins (srt (ns.take i)) (rdOf ByteArray.empty ns (i : Int))) := ⟨by
        rw [List.take_succ_eq_append_getElem hlt, srt_snoc]
        simp [rdOf, List.getD_eq_getElem?_getD, List.getElem?_eq_getElem hlt]⟩
      have hxl : (srt (ns.take i)).length = i := by rw [srt_length, List.length_take]; omega
      have HUP := Aside0.mk (srt_up (ns.take i))
      obtain ⟨x, hxx⟩ : ∃ x, rdOf ByteArray.empty ns (i : Int) = x := ⟨_, rfl⟩
      rw [hxx] at hx HINS
      obtain ⟨xs, hxs⟩ : ∃ xs, srt (ns.take i) = xs := ⟨_, rfl⟩
      rw [hxs] at HR HINS hxl HUP
      obtain ⟨A3, c3, e3, l3, C3⟩ := Kd.R_reads HR.out
      subst e3
      have HC3 := Aside0.mk C3
      have HXL := Aside0.mk hxl
      have hxl2 : xs.length ≤ 1000000 := by omega
      clear C3 hxs hxx
      have p0 : (0 : Int) ≤ i := by omega
      have p1 : (i : Int) < (ns.length : Int) := by omega
      clear hxl
      obtain ⟨wo, hwo⟩ : ∃ wo, wo = wr := ⟨_, rfl⟩
      subst hwo
      go_wp2_with fail
      go_loopg [5] xs.length (fun kq v5 w' => ∃ at_ : Nat, v5 = .int .i64 at_ ∧ at_ + kq = xs.length ∧ Aside0 (∀ t : Nat, t < at_ → cmpS (rdOf ByteArray.empty xs (t : Int)) x < 0) ∧ Aside0 (∃ m, w' = wo.drewN m))
      case atStart => exact ⟨0, rfl, by omega, ⟨fun t h => absurd h (Nat.not_lt_zero _)⟩, ⟨0, rfl⟩⟩
      case round =>
        obtain ⟨at_, rfl, hak, HLO, HM⟩ := hrel
        obtain ⟨m0, hm0⟩ := HM.out
        have HW2 := Aside0.mk hm0
        by_cases hal : at_ < xs.length
        · have ha : decide ((at_ : Int) < (xs.length : Int)) = true := by simp; omega
          obtain ⟨ad3, e, hy⟩ := Kd.at_string HC3.out (at_ : Int) (by omega) (by omega)
          cases e
          obtain ⟨y, hyy⟩ : ∃ y, rdOf ByteArray.empty xs (at_ : Int) = y := ⟨_, rfl⟩
          rw [hyy] at hy
          simp only [Int.toNat_natCast] at hy
          have HY := Aside0.mk hyy
          have q0 : (0 : Int) ≤ at_ := by omega
          have q1 : (at_ : Int) < (xs.length : Int) := by omega
          have hx2 := hx
          have hy2 := hy
          replace hx2 : wr.cell? (adl.add i) = some (.string x) := by rw [hm0]; exact hx
          replace hy2 : wr.cell? (ad3.add at_) = some (.string y) := by rw [hm0]; exact hy
          clear hx hy hyy hm0
          by_cases hb : cmpS y x < 0
          · have hbl : Op.bytesLess y.toList x.toList = true := by rw [less_cmp, Lib.toList_data, Lib.toList_data]; exact decide_eq_true hb
            have hwr : IntKind.i64.wrap ((at_ : Int) + 1) = (at_ : Int) + 1 := IntWalk.i64_in _ (by omega)
            have HCB := Aside0.mk hb
            clear hb
            go_wp2_with fail
            go_quiet (fail)
            go_wp2_with fail
            go_roundg (xs.length - (at_ + 1))
            case measure => omega
            case rel =>
              refine ⟨at_ + 1, by first | rfl | simp, by omega, ⟨fun t ht => ?_⟩, ?_⟩
              · by_cases e : t = at_
                · rw [e, HY.out]; exact HCB.out
                · exact HLO.out t (by omega)
              · obtain ⟨m1, hm1⟩ := HM.out
                exact ⟨⟨m1 + nq, by rw [hm1]; first | rfl | exact (World.drewN_drewN _ _ _) | simp [World.drewN]⟩⟩
          · have hbl : Op.bytesLess y.toList x.toList = false := by rw [less_cmp, Lib.toList_data, Lib.toList_data]; exact decide_eq_false hb
            have HAT : Aside0 (lower x xs = at_) := ⟨lower_is HUP.out x at_ (by omega) HLO.out (fun _ => by rw [HY.out]; exact hb)⟩
            clear hb
            go_wp2_with fail
            go_quiet (fail)
            go_wp2_with fail
            obtain ⟨wS, hwS⟩ : ∃ wS, wS = wr.drewN nq := ⟨_, rfl⟩
            replace hx : wS.cell? (adl.add i) = some (.string x) := by rw [hwS]; exact hx2
            have HWW : Aside0 (Below wo.heap.size wo wS) := ⟨by rw [hwS, HW2.out]; exact pw_below_drewN (pw_below_drewN (Below.refl _ _) _) _⟩
            rw [← hwS]
            clear hwS
            have HWS : Aside0 (W.heap.size ≤ wS.heap.size) := ⟨Nat.le_trans HBW.out.size HWW.out.size⟩
            have HBS : Aside0 (Below W.heap.size W wS) := ⟨below_step HBW.out HWW.out⟩
            have hal2 : at_ ≤ xs.length := by omega
            have HLX : Aside0 (xs.length ≤ 1000000 ∧ at_ ≤ xs.length) := ⟨hxl2, hal2⟩
            have HCT : Aside0 (∀ W', Below wS.heap.size wS W' → Kd.C Kd.string W' (some ad3) (xs.take at_).length (xs.take at_)) := ⟨fun W' hb => Kd.C_take (Kd.C_below (Kd.C_below HC3.out HWW.out) hb) hal2⟩
            have HCD : Aside0 (∀ W', Below wS.heap.size wS W' → Kd.C Kd.string W' (if c3 = at_ then (some ad3) else (some ad3).map (·.add (at_ * Kd.string.sz))) (xs.drop at_).length (xs.drop at_)) := ⟨fun W' hb => Kd.C_drop (Kd.C_below (Kd.C_below HC3.out HWW.out) hb) hal2 l3⟩
            have hcut1 := cut_to (P := Tryd.prog) 24 9 .i64 Tryd.underlying24 hiS (some ad3) xs.length c3 (at_ : Int) (by omega) (by omega) l3
            have hcut2 := cut_from (P := Tryd.prog) 24 9 .i64 Tryd.underlying24 hiS 1 hsS (some ad3) xs.length c3 (at_ : Int) (by omega) (by omega)
            simp only [Int.toNat_natCast] at hcut1 hcut2
            obtain ⟨A4, hA4⟩ : ∃ A4, (if c3 = at_ then (some ad3) else (some ad3).map (·.add (at_ * Kd.string.sz))) = A4 := ⟨_, rfl⟩
            rw [hA4] at HCD
            have hA5 : (if c3 = at_ then (some ad3) else (some ad3).map (·.add (at_ * 1))) = A4 := hA4
            rw [hA5] at hcut2
            have hl4 : (xs.take at_).length = at_ := by rw [List.length_take]; omega
            have hl5 : (xs.drop at_).length = xs.length - at_ := List.length_drop
            rw [hl4] at HCT
            rw [hl5] at HCD
            clear hA4 hA5 hl4 hl5
            have HSB : Aside0 (∀ W', Below wS.heap.size wS W' → W'.cell? (adl.add i) = some (.string x)) := ⟨fun W' hb => pw_cell_below hb hx⟩
            have HB : Aside0 (Below wS.heap.size wS wS.drew) := ⟨below_drew (Below.refl _ _)⟩
            refine wp_region_noPanic ?_
            refine wp_region_late [] (fun w' : World => w'.cell? (adl.add i) = some (.string x)) (by kernel_rfl) ?_
            have HS0 : (fun w' : World => w'.cell? (adl.add i) = some (.string x)) wS.drew := hx
            refine wpL_takeT (i := 1) (v := ?v1) rfl (by kernel_rfl) (by kernel_rfl) (by kernel_rfl) (by kernel_rfl) (fun _ _ _ h => h) (Or.inl ⟨by rfl, ?hy1⟩) (fun _ => HS0) ?rest1
            case hy1 => (intro w hSw; (try dsimp only at hSw); go_simp; (first | done | with_reducible rfl))
            try simp only [Act.put, List.getElem_toArray, List.getElem_cons_zero, List.getElem_cons_succ, List.setIfInBounds_toArray, List.set_cons_zero, List.set_cons_succ]
            refine wpL_takeT (i := 2) (v := ?v2) rfl (by kernel_rfl) (by kernel_rfl) (by kernel_rfl) (by kernel_rfl) (fun _ _ _ h => h) (Or.inl ⟨by rfl, ?hy2⟩) (fun _ => HS0) ?rest2
            case hy2 => (intro w hSw; (try dsimp only at hSw); go_simp; (first | done | with_reducible rfl))
            try simp only [Act.put, List.getElem_toArray, List.getElem_cons_zero, List.getElem_cons_succ, List.setIfInBounds_toArray, List.set_cons_zero, List.set_cons_succ]
            refine wpL_takeT (i := 3) (v := ?v3) rfl (by kernel_rfl) (by kernel_rfl) (by kernel_rfl) (by kernel_rfl) (fun _ _ _ h => h) (Or.inl ⟨by rfl, ?hy3⟩) (fun _ => HS0) ?rest3
            case hy3 => (intro w hSw; (try dsimp only at hSw); go_simp; (first | done | with_reducible rfl))
            try simp only [Act.put, List.getElem_toArray, List.getElem_cons_zero, List.getElem_cons_succ, List.setIfInBounds_toArray, List.set_cons_zero, List.set_cons_succ]
            refine wpL_takeT (i := 5) (v := ?v5) rfl (by kernel_rfl) (by kernel_rfl) (by kernel_rfl) (by kernel_rfl) (fun _ _ _ h => h) (Or.inl ⟨by rfl, ?hy5⟩) (fun _ => HS0) ?rest5
            case hy5 => (intro w hSw; (try dsimp only at hSw); go_simp; (first | done | with_reducible rfl))
            try simp only [Act.put, List.getElem_toArray, List.getElem_cons_zero, List.getElem_cons_succ, List.setIfInBounds_toArray, List.set_cons_zero, List.set_cons_succ]
            refine wpL_takeT (i := 6) (v := ?v6) rfl (by kernel_rfl) (by kernel_rfl) (by kernel_rfl) (by kernel_rfl) (fun _ _ _ h => h) (Or.inl ⟨by rfl, ?hy6⟩) (fun _ => HS0) ?rest6
            case hy6 => (intro w hSw; (try dsimp only at hSw); go_simp; (first | done | with_reducible rfl))
            try simp only [Act.put, List.getElem_toArray, List.getElem_cons_zero, List.getElem_cons_succ, List.setIfInBounds_toArray, List.set_cons_zero, List.set_cons_succ]
            refine wpL_takeT (i := 7) (v := ?v7) rfl (by kernel_rfl) (by kernel_rfl) (by kernel_rfl) (by kernel_rfl) (fun _ _ _ h => h) (Or.inl ⟨by rfl, ?hy7⟩) (fun _ => HS0) ?rest7
            case hy7 => (intro w hSw; (try dsimp only at hSw); go_simp; (first | done | with_reducible rfl))
            try simp only [Act.put, List.getElem_toArray, List.getElem_cons_zero, List.getElem_cons_succ, List.setIfInBounds_toArray, List.set_cons_zero, List.set_cons_succ]
            refine wpL_take (i := 8) (v := ?v8) rfl (by kernel_rfl) (by kernel_rfl) (by kernel_rfl) (by kernel_rfl) (by kernel_rfl) (by kernel_rfl) (fun _ _ _ h => h) (Or.inl ⟨by rfl, ?hy8⟩) HS0 ?rest8
            case hy8 => (intro w hSw; (try dsimp only at hSw); go_simp; (first | done | with_reducible rfl))
            try simp only [Act.put, List.getElem_toArray, List.getElem_cons_zero, List.getElem_cons_succ, List.setIfInBounds_toArray, List.set_cons_zero, List.set_cons_succ]
            refine wpL_takeT (i := 11) (v := ?v11) rfl (by kernel_rfl) (by kernel_rfl) (by kernel_rfl) (by kernel_rfl) (fun _ _ _ h => h) (Or.inl ⟨by rfl, ?hy11⟩) (fun _ => HS0) ?rest11
            case hy11 => (intro w hSw; (try dsimp only at hSw); go_simp; (first | done | with_reducible rfl))
            try simp only [Act.put, List.getElem_toArray, List.getElem_cons_zero, List.getElem_cons_succ, List.setIfInBounds_toArray, List.set_cons_zero, List.set_cons_succ]
            refine wpL_takeT (i := 12) (v := ?v12) rfl (by kernel_rfl) (by kernel_rfl) (by kernel_rfl) (by kernel_rfl) (fun _ _ _ h => h) (Or.inl ⟨by rfl, ?hy12⟩) (fun _ => HS0) ?rest12
            case hy12 => (intro w hSw; (try dsimp only at hSw); go_simp; (first | done | with_reducible rfl))
            try simp only [Act.put, List.getElem_toArray, List.getElem_cons_zero, List.getElem_cons_succ, List.setIfInBounds_toArray, List.set_cons_zero, List.set_cons_succ]
            refine wpL_takeT (i := 13) (v := ?v13) rfl (by kernel_rfl) (by kernel_rfl) (by kernel_rfl) (by kernel_rfl) (fun _ _ _ h => h) (Or.inl ⟨by rfl, ?hy13⟩) (fun _ => HS0) ?rest13
            case hy13 => (intro w hSw; (try dsimp only at hSw); go_simp; (first | done | with_reducible rfl))
            try simp only [Act.put, List.getElem_toArray, List.getElem_cons_zero, List.getElem_cons_succ, List.setIfInBounds_toArray, List.set_cons_zero, List.set_cons_succ]
            clear hcut1 hcut2 HS0
            refine wpL_ready (rs := [0, 9]) (by kernel_rfl) (by simp) (AllL.cons rfl (fun K hK => ?_) (AllL.cons rfl (fun K hK => ?_) AllL.nil))
            · skip
              refine Kd.R_lit_step Kd.string wS.heap.size 9 (by rfl) rfl (xs := ([] : List ByteArray)) (inner := []) (ok := fun _ => True) (okp := fun _ => True) (by first | (go_simp; done) | (go_simp; rfl)) (Reps.none _ _) (fun _ hk => hk) trivial HB.out (below_size HB.out) (by simp) ?_
              intro v29 w1 hR hb hg hat
              have HV := Aside0.mk hR
              clear HB; have HB := Aside0.mk hb
              clear hR hb hg hat
              refine hK.out _ _ (HSB.out _ HB.out) ?_
              clear hK K
              try simp only [Act.put, List.getElem_toArray, List.getElem_cons_zero, List.getElem_cons_succ, List.setIfInBounds_toArray, List.set_cons_zero, List.set_cons_succ]
              refine wpL_ready (rs := [4, 9]) (by kernel_rfl) (by simp) (AllL.cons rfl (fun K hK => ?_) (AllL.cons rfl (fun K hK => ?_) AllL.nil))
              · skip
                refine Kd.R_append_rows_step Kd.string wS.heap.size (by rfl) (.tmp 29) (.tmp 32) 24 9 (.string ⟨#[]⟩) 16 rfl Tryd.underlying24 idx_infoS rfl (by decide) (by omega) v29 ([] : List ByteArray) (xs.take at_) _ _ _ (fun _ => True) (fun _ => False) rfl rfl HV.out (by have h := HCT.out _ HB.out; exact h) (fun _ _ h => h) (fun _ h => h.elim) (fun _ _ => trivial) HB.out (below_size HB.out) (by have := HLX.out; simp only [List.nil_append, List.length_append, List.length_take, List.length_cons, List.length_nil]; omega) ?_
                intro v33 w29 hR hb hg hat
                clear HV; have HV := Aside0.mk hR
                clear HB; have HB := Aside0.mk hb
                clear hR hb hg hat
                refine hK.out _ _ (HSB.out _ HB.out) ?_
                clear hK K
                try simp only [Act.put, List.getElem_toArray, List.getElem_cons_zero, List.getElem_cons_succ, List.setIfInBounds_toArray, List.set_cons_zero, List.set_cons_succ]
                refine wpL_ready (rs := [9]) (by kernel_rfl) (by simp) (AllL.cons rfl (fun K hK => ?_) AllL.nil)
                refine Kd.R_lit_step Kd.string wS.heap.size 9 (by rfl) rfl (xs := [x]) (inner := [.string x]) (ok := fun _ => True) (okp := fun _ => True) (by first | (go_simp; done) | (go_simp; rfl)) (Reps.snoc (Reps.none _ _) rfl rfl) (fun _ hk => hk) trivial HB.out (below_size HB.out) (by simp) ?_
                intro v38 w2 hR hb hg hat
                have HNE := Aside0.mk (ne_new HV.out hat)
                have HV1 := Aside0.mk (Kd.R_grown2 HV.out rfl hg (fun k e => by cases e)); clear HV; have HV := HV1; clear HV1
                have HX := Aside0.mk hR
                clear HB; have HB := Aside0.mk hb
                clear hR hb hg hat
                refine hK.out _ _ (HSB.out _ HB.out) ?_
                clear hK K
                try simp only [Act.put, List.getElem_toArray, List.getElem_cons_zero, List.getElem_cons_succ, List.setIfInBounds_toArray, List.set_cons_zero, List.set_cons_succ]
                obtain ⟨Ab, cb, eb, _, Cb⟩ := Kd.R_reads HX.out
                subst eb
                have HCb := Aside0.mk Cb
                clear Cb
                refine wpL_ready (rs := [10]) (by kernel_rfl) (by simp) (AllL.cons rfl (fun K hK => ?_) AllL.nil)
                refine Kd.R_append_rows_step Kd.string wS.heap.size (by rfl) (.tmp 33) (.tmp 38) 24 9 (.string ⟨#[]⟩) 16 rfl Tryd.underlying24 idx_infoS rfl (by decide) (by omega) v33 ([] ++ xs.take at_) [x] Ab 1 cb (fun _ => True) (fun _ => False) rfl rfl HV.out HCb.out (fun _ _ h => h) (fun _ h => h.elim) (fun _ _ => trivial) HB.out (below_size HB.out) (by have := HLX.out; simp only [List.nil_append, List.length_append, List.length_take, List.length_cons, List.length_nil]; omega) ?_
                intro v39 w33 hR hb hg hat
                clear HV; have HV := Aside0.mk hR
                clear HB; have HB := Aside0.mk hb
                clear hR hb hg hat
                refine hK.out _ _ (HSB.out _ HB.out) ?_
                clear hK K
                try simp only [Act.put, List.getElem_toArray, List.getElem_cons_zero, List.getElem_cons_succ, List.setIfInBounds_toArray, List.set_cons_zero, List.set_cons_succ]
                refine wpL_ready (rs := [14]) (by kernel_rfl) (by simp) (AllL.cons rfl (fun K hK => ?_) AllL.nil)
                refine Kd.R_append_rows_step Kd.string wS.heap.size (by rfl) (.tmp 39) (.tmp 42) 24 9 (.string ⟨#[]⟩) 16 rfl Tryd.underlying24 idx_infoS rfl (by decide) (by omega) v39 ([] ++ xs.take at_ ++ [x]) (xs.drop at_) _ _ _ (fun _ => True) (fun _ => False) rfl rfl HV.out (by have h := HCD.out _ HB.out; exact h) (fun _ _ h => h) (fun _ h => h.elim) (fun _ _ => trivial) HB.out (below_size HB.out) (by have := HLX.out; simp only [List.nil_append, List.length_append, List.length_take, List.length_cons, List.length_nil]; omega) ?_
                intro v43 w39 hR hb hg hat
                clear HV; have HV := Aside0.mk hR
                clear HB; have HB := Aside0.mk hb
                clear hR hb hg hat
                refine hK.out _ _ (HSB.out _ HB.out) ?_
                clear hK K
                try simp only [Act.put, List.getElem_toArray, List.getElem_cons_zero, List.getElem_cons_succ, List.setIfInBounds_toArray, List.set_cons_zero, List.set_cons_succ]
                refine wpL_ready (rs := [15]) (by kernel_rfl) (by simp) (AllL.cons rfl (fun K hK => ?_) AllL.nil)
                go_simp
                refine hK.out _ _ (HSB.out _ HB.out) ?_
                clear hK K
                try simp only [Act.put, List.getElem_toArray, List.getElem_cons_zero, List.getElem_cons_succ, List.setIfInBounds_toArray, List.set_cons_zero, List.set_cons_succ]
                refine wpL_done (by kernel_rfl) (NoPanic.normal ?_) _
                go_wp2_with fail
                go_roundg (ns.length - (i + 1))
                case measure => omega
                case rel => exact ⟨i + 1, rfl, by omega, ⟨by have h := HV.out; rw [HINS.out]; exact Kd.R_lower (by simpa [ins, HAT.out] using h) HWS.out⟩, ⟨below_weaken HBS.out HWS.out HB.out⟩⟩
              · skip
                refine Kd.R_lit_step Kd.string wS.heap.size 9 (by rfl) rfl (xs := [x]) (inner := [.string x]) (ok := fun _ => True) (okp := fun _ => True) (by first | (go_simp; done) | (go_simp; rfl)) (Reps.snoc (Reps.none _ _) rfl rfl) (fun _ hk => hk) trivial HB.out (below_size HB.out) (by simp) ?_
                intro v38 w2 hR hb hg hat
                have HNE := Aside0.mk (ne_new HV.out hat)
                have HV1 := Aside0.mk (Kd.R_grown2 HV.out rfl hg (fun k e => by cases e)); clear HV; have HV := HV1; clear HV1
                have HX := Aside0.mk hR
                clear HB; have HB := Aside0.mk hb
                clear hR hb hg hat
                refine hK.out _ _ (HSB.out _ HB.out) ?_
                clear hK K
                try simp only [Act.put, List.getElem_toArray, List.getElem_cons_zero, List.getElem_cons_succ, List.setIfInBounds_toArray, List.set_cons_zero, List.set_cons_succ]
                refine wpL_ready (rs := [4]) (by kernel_rfl) (by simp) (AllL.cons rfl (fun K hK => ?_) AllL.nil)
                refine Kd.R_append_rows_step Kd.string wS.heap.size (by rfl) (.tmp 29) (.tmp 32) 24 9 (.string ⟨#[]⟩) 16 rfl Tryd.underlying24 idx_infoS rfl (by decide) (by omega) v29 ([] : List ByteArray) (xs.take at_) _ _ _ (fun _ => True) (fun _ => False) rfl rfl HV.out (by have h := HCT.out _ HB.out; exact h) (fun _ _ h => h) (fun _ h => h.elim) (fun _ _ => trivial) HB.out (below_size HB.out) (by have := HLX.out; simp only [List.nil_append, List.length_append, List.length_take, List.length_cons, List.length_nil]; omega) ?_
                intro v33 w29 hR hb hg hat
                have HNE1 := Aside0.mk (ne_app HX.out HNE.out hat); have HX1 := Aside0.mk (Kd.R_grown2 HX.out rfl hg HNE.out); clear HX HNE; have HX := HX1; have HNE := HNE1; clear HX1 HNE1
                clear HV; have HV := Aside0.mk hR
                clear HB; have HB := Aside0.mk hb
                clear hR hb hg hat
                refine hK.out _ _ (HSB.out _ HB.out) ?_
                clear hK K
                try simp only [Act.put, List.getElem_toArray, List.getElem_cons_zero, List.getElem_cons_succ, List.setIfInBounds_toArray, List.set_cons_zero, List.set_cons_succ]
                obtain ⟨Ab, cb, eb, _, Cb⟩ := Kd.R_reads HX.out
                subst eb
                have HCb := Aside0.mk Cb
                clear Cb
                refine wpL_ready (rs := [10]) (by kernel_rfl) (by simp) (AllL.cons rfl (fun K hK => ?_) AllL.nil)
                refine Kd.R_append_rows_step Kd.string wS.heap.size (by rfl) (.tmp 33) (.tmp 38) 24 9 (.string ⟨#[]⟩) 16 rfl Tryd.underlying24 idx_infoS rfl (by decide) (by omega) v33 ([] ++ xs.take at_) [x] Ab 1 cb (fun _ => True) (fun _ => False) rfl rfl HV.out HCb.out (fun _ _ h => h) (fun _ h => h.elim) (fun _ _ => trivial) HB.out (below_size HB.out) (by have := HLX.out; simp only [List.nil_append, List.length_append, List.length_take, List.length_cons, List.length_nil]; omega) ?_
                intro v39 w33 hR hb hg hat
                clear HV; have HV := Aside0.mk hR
                clear HB; have HB := Aside0.mk hb
                clear hR hb hg hat
                refine hK.out _ _ (HSB.out _ HB.out) ?_
                clear hK K
                try simp only [Act.put, List.getElem_toArray, List.getElem_cons_zero, List.getElem_cons_succ, List.setIfInBounds_toArray, List.set_cons_zero, List.set_cons_succ]
                refine wpL_ready (rs := [14]) (by kernel_rfl) (by simp) (AllL.cons rfl (fun K hK => ?_) AllL.nil)
                refine Kd.R_append_rows_step Kd.string wS.heap.size (by rfl) (.tmp 39) (.tmp 42) 24 9 (.string ⟨#[]⟩) 16 rfl Tryd.underlying24 idx_infoS rfl (by decide) (by omega) v39 ([] ++ xs.take at_ ++ [x]) (xs.drop at_) _ _ _ (fun _ => True) (fun _ => False) rfl rfl HV.out (by have h := HCD.out _ HB.out; exact h) (fun _ _ h => h) (fun _ h => h.elim) (fun _ _ => trivial) HB.out (below_size HB.out) (by have := HLX.out; simp only [List.nil_append, List.length_append, List.length_take, List.length_cons, List.length_nil]; omega) ?_
                intro v43 w39 hR hb hg hat
                clear HV; have HV := Aside0.mk hR
                clear HB; have HB := Aside0.mk hb
                clear hR hb hg hat
                refine hK.out _ _ (HSB.out _ HB.out) ?_
                clear hK K
                try simp only [Act.put, List.getElem_toArray, List.getElem_cons_zero, List.getElem_cons_succ, List.setIfInBounds_toArray, List.set_cons_zero, List.set_cons_succ]
                refine wpL_ready (rs := [15]) (by kernel_rfl) (by simp) (AllL.cons rfl (fun K hK => ?_) AllL.nil)
                go_simp
                refine hK.out _ _ (HSB.out _ HB.out) ?_
                clear hK K
                try simp only [Act.put, List.getElem_toArray, List.getElem_cons_zero, List.getElem_cons_succ, List.setIfInBounds_toArray, List.set_cons_zero, List.set_cons_succ]
                refine wpL_done (by kernel_rfl) (NoPanic.normal ?_) _
                go_wp2_with fail
                go_roundg (ns.length - (i + 1))
                case measure => omega
                case rel => exact ⟨i + 1, rfl, by omega, ⟨by have h := HV.out; rw [HINS.out]; exact Kd.R_lower (by simpa [ins, HAT.out] using h) HWS.out⟩, ⟨below_weaken HBS.out HWS.out HB.out⟩⟩
            · skip
              refine Kd.R_lit_step Kd.string wS.heap.size 9 (by rfl) rfl (xs := [x]) (inner := [.string x]) (ok := fun _ => True) (okp := fun _ => True) (by first | (go_simp; done) | (go_simp; rfl)) (Reps.snoc (Reps.none _ _) rfl rfl) (fun _ hk => hk) trivial HB.out (below_size HB.out) (by simp) ?_
              intro v38 w2 hR hb hg hat
              have HX := Aside0.mk hR
              clear HB; have HB := Aside0.mk hb
              clear hR hb hg hat
              refine hK.out _ _ (HSB.out _ HB.out) ?_
              clear hK K
              try simp only [Act.put, List.getElem_toArray, List.getElem_cons_zero, List.getElem_cons_succ, List.setIfInBounds_toArray, List.set_cons_zero, List.set_cons_succ]
              refine wpL_ready (rs := [0]) (by kernel_rfl) (by simp) (AllL.cons rfl (fun K hK => ?_) AllL.nil)
              refine Kd.R_lit_step Kd.string wS.heap.size 9 (by rfl) rfl (xs := ([] : List ByteArray)) (inner := []) (ok := fun _ => True) (okp := fun _ => True) (by first | (go_simp; done) | (go_simp; rfl)) (Reps.none _ _) (fun _ hk => hk) trivial HB.out (below_size HB.out) (by simp) ?_
              intro v29 w1 hR hb hg hat
              have HNE := Aside0.mk (ne_old HX.out hat)
              have HX1 := Aside0.mk (Kd.R_grown2 HX.out rfl hg (fun k e => by cases e)); clear HX; have HX := HX1; clear HX1
              have HV := Aside0.mk hR
              clear HB; have HB := Aside0.mk hb
              clear hR hb hg hat
              refine hK.out _ _ (HSB.out _ HB.out) ?_
              clear hK K
              try simp only [Act.put, List.getElem_toArray, List.getElem_cons_zero, List.getElem_cons_succ, List.setIfInBounds_toArray, List.set_cons_zero, List.set_cons_succ]
              refine wpL_ready (rs := [4]) (by kernel_rfl) (by simp) (AllL.cons rfl (fun K hK => ?_) AllL.nil)
              refine Kd.R_append_rows_step Kd.string wS.heap.size (by rfl) (.tmp 29) (.tmp 32) 24 9 (.string ⟨#[]⟩) 16 rfl Tryd.underlying24 idx_infoS rfl (by decide) (by omega) v29 ([] : List ByteArray) (xs.take at_) _ _ _ (fun _ => True) (fun _ => False) rfl rfl HV.out (by have h := HCT.out _ HB.out; exact h) (fun _ _ h => h) (fun _ h => h.elim) (fun _ _ => trivial) HB.out (below_size HB.out) (by have := HLX.out; simp only [List.nil_append, List.length_append, List.length_take, List.length_cons, List.length_nil]; omega) ?_
              intro v33 w29 hR hb hg hat
              have HNE1 := Aside0.mk (ne_app HX.out HNE.out hat); have HX1 := Aside0.mk (Kd.R_grown2 HX.out rfl hg HNE.out); clear HX HNE; have HX := HX1; have HNE := HNE1; clear HX1 HNE1
              clear HV; have HV := Aside0.mk hR
              clear HB; have HB := Aside0.mk hb
              clear hR hb hg hat
              refine hK.out _ _ (HSB.out _ HB.out) ?_
              clear hK K
              try simp only [Act.put, List.getElem_toArray, List.getElem_cons_zero, List.getElem_cons_succ, List.setIfInBounds_toArray, List.set_cons_zero, List.set_cons_succ]
              obtain ⟨Ab, cb, eb, _, Cb⟩ := Kd.R_reads HX.out
              subst eb
              have HCb := Aside0.mk Cb
              clear Cb
              refine wpL_ready (rs := [10]) (by kernel_rfl) (by simp) (AllL.cons rfl (fun K hK => ?_) AllL.nil)
              refine Kd.R_append_rows_step Kd.string wS.heap.size (by rfl) (.tmp 33) (.tmp 38) 24 9 (.string ⟨#[]⟩) 16 rfl Tryd.underlying24 idx_infoS rfl (by decide) (by omega) v33 ([] ++ xs.take at_) [x] Ab 1 cb (fun _ => True) (fun _ => False) rfl rfl HV.out HCb.out (fun _ _ h => h) (fun _ h => h.elim) (fun _ _ => trivial) HB.out (below_size HB.out) (by have := HLX.out; simp only [List.nil_append, List.length_append, List.length_take, List.length_cons, List.length_nil]; omega) ?_
              intro v39 w33 hR hb hg hat
              clear HV; have HV := Aside0.mk hR
              clear HB; have HB := Aside0.mk hb
              clear hR hb hg hat
              refine hK.out _ _ (HSB.out _ HB.out) ?_
              clear hK K
              try simp only [Act.put, List.getElem_toArray, List.getElem_cons_zero, List.getElem_cons_succ, List.setIfInBounds_toArray, List.set_cons_zero, List.set_cons_succ]
              refine wpL_ready (rs := [14]) (by kernel_rfl) (by simp) (AllL.cons rfl (fun K hK => ?_) AllL.nil)
              refine Kd.R_append_rows_step Kd.string wS.heap.size (by rfl) (.tmp 39) (.tmp 42) 24 9 (.string ⟨#[]⟩) 16 rfl Tryd.underlying24 idx_infoS rfl (by decide) (by omega) v39 ([] ++ xs.take at_ ++ [x]) (xs.drop at_) _ _ _ (fun _ => True) (fun _ => False) rfl rfl HV.out (by have h := HCD.out _ HB.out; exact h) (fun _ _ h => h) (fun _ h => h.elim) (fun _ _ => trivial) HB.out (below_size HB.out) (by have := HLX.out; simp only [List.nil_append, List.length_append, List.length_take, List.length_cons, List.length_nil]; omega) ?_
              intro v43 w39 hR hb hg hat
              clear HV; have HV := Aside0.mk hR
              clear HB; have HB := Aside0.mk hb
              clear hR hb hg hat
              refine hK.out _ _ (HSB.out _ HB.out) ?_
              clear hK K
              try simp only [Act.put, List.getElem_toArray, List.getElem_cons_zero, List.getElem_cons_succ, List.setIfInBounds_toArray, List.set_cons_zero, List.set_cons_succ]
              refine wpL_ready (rs := [15]) (by kernel_rfl) (by simp) (AllL.cons rfl (fun K hK => ?_) AllL.nil)
              go_simp
              refine hK.out _ _ (HSB.out _ HB.out) ?_
              clear hK K
              try simp only [Act.put, List.getElem_toArray, List.getElem_cons_zero, List.getElem_cons_succ, List.setIfInBounds_toArray, List.set_cons_zero, List.set_cons_succ]
              refine wpL_done (by kernel_rfl) (NoPanic.normal ?_) _
              go_wp2_with fail
              go_roundg (ns.length - (i + 1))
              case measure => omega
              case rel => exact ⟨i + 1, rfl, by omega, ⟨by have h := HV.out; rw [HINS.out]; exact Kd.R_lower (by simpa [ins, HAT.out] using h) HWS.out⟩, ⟨below_weaken HBS.out HWS.out HB.out⟩⟩
        · have ha : decide ((at_ : Int) < (xs.length : Int)) = false := by simp; omega
          have HAT : Aside0 (lower x xs = at_) := ⟨lower_is HUP.out x at_ (by omega) HLO.out (fun h => absurd h hal)⟩
          replace hx : wr.cell? (adl.add i) = some (.string x) := by rw [hm0]; exact hx
          clear hm0
          go_wp2_with fail
          go_quiet (fail)
          go_wp2_with fail
          obtain ⟨wS, hwS⟩ : ∃ wS, wS = wr.drewN nq := ⟨_, rfl⟩
          replace hx : wS.cell? (adl.add i) = some (.string x) := by rw [hwS]; exact hx
          have HWW : Aside0 (Below wo.heap.size wo wS) := ⟨by rw [hwS, HW2.out]; exact pw_below_drewN (pw_below_drewN (Below.refl _ _) _) _⟩
          rw [← hwS]
          clear hwS
          have HWS : Aside0 (W.heap.size ≤ wS.heap.size) := ⟨Nat.le_trans HBW.out.size HWW.out.size⟩
          have HBS : Aside0 (Below W.heap.size W wS) := ⟨below_step HBW.out HWW.out⟩
          have hal2 : at_ ≤ xs.length := by omega
          have HLX : Aside0 (xs.length ≤ 1000000 ∧ at_ ≤ xs.length) := ⟨hxl2, hal2⟩
          have HCT : Aside0 (∀ W', Below wS.heap.size wS W' → Kd.C Kd.string W' A3 (xs.take at_).length (xs.take at_)) := ⟨fun W' hb => Kd.C_take (Kd.C_below (Kd.C_below HC3.out HWW.out) hb) hal2⟩
          have HCD : Aside0 (∀ W', Below wS.heap.size wS W' → Kd.C Kd.string W' (if c3 = at_ then A3 else A3.map (·.add (at_ * Kd.string.sz))) (xs.drop at_).length (xs.drop at_)) := ⟨fun W' hb => Kd.C_drop (Kd.C_below (Kd.C_below HC3.out HWW.out) hb) hal2 l3⟩
          have hcut1 := cut_to (P := Tryd.prog) 24 9 .i64 Tryd.underlying24 hiS A3 xs.length c3 (at_ : Int) (by omega) (by omega) l3
          have hcut2 := cut_from (P := Tryd.prog) 24 9 .i64 Tryd.underlying24 hiS 1 hsS A3 xs.length c3 (at_ : Int) (by omega) (by omega)
          simp only [Int.toNat_natCast] at hcut1 hcut2
          obtain ⟨A4, hA4⟩ : ∃ A4, (if c3 = at_ then A3 else A3.map (·.add (at_ * Kd.string.sz))) = A4 := ⟨_, rfl⟩
          rw [hA4] at HCD
          have hA5 : (if c3 = at_ then A3 else A3.map (·.add (at_ * 1))) = A4 := hA4
          rw [hA5] at hcut2
          have hl4 : (xs.take at_).length = at_ := by rw [List.length_take]; omega
          have hl5 : (xs.drop at_).length = xs.length - at_ := List.length_drop
          rw [hl4] at HCT
          rw [hl5] at HCD
          clear hA4 hA5 hl4 hl5
          have HSB : Aside0 (∀ W', Below wS.heap.size wS W' → W'.cell? (adl.add i) = some (.string x)) := ⟨fun W' hb => pw_cell_below hb hx⟩
          have HB : Aside0 (Below wS.heap.size wS wS.drew) := ⟨below_drew (Below.refl _ _)⟩
          refine wp_region_noPanic ?_
          refine wp_region_late [] (fun w' : World => w'.cell? (adl.add i) = some (.string x)) (by kernel_rfl) ?_
          have HS0 : (fun w' : World => w'.cell? (adl.add i) = some (.string x)) wS.drew := hx
          refine wpL_takeT (i := 1) (v := ?v1b) rfl (by kernel_rfl) (by kernel_rfl) (by kernel_rfl) (by kernel_rfl) (fun _ _ _ h => h) (Or.inl ⟨by rfl, ?hy1b⟩) (fun _ => HS0) ?rest1b
          case hy1b => (intro w hSw; (try dsimp only at hSw); go_simp; (first | done | with_reducible rfl))
          try simp only [Act.put, List.getElem_toArray, List.getElem_cons_zero, List.getElem_cons_succ, List.setIfInBounds_toArray, List.set_cons_zero, List.set_cons_succ]
          refine wpL_takeT (i := 2) (v := ?v2b) rfl (by kernel_rfl) (by kernel_rfl) (by kernel_rfl) (by kernel_rfl) (fun _ _ _ h => h) (Or.inl ⟨by rfl, ?hy2b⟩) (fun _ => HS0) ?rest2b
          case hy2b => (intro w hSw; (try dsimp only at hSw); go_simp; (first | done | with_reducible rfl))
          try simp only [Act.put, List.getElem_toArray, List.getElem_cons_zero, List.getElem_cons_succ, List.setIfInBounds_toArray, List.set_cons_zero, List.set_cons_succ]
          refine wpL_takeT (i := 3) (v := ?v3b) rfl (by kernel_rfl) (by kernel_rfl) (by kernel_rfl) (by kernel_rfl) (fun _ _ _ h => h) (Or.inl ⟨by rfl, ?hy3b⟩) (fun _ => HS0) ?rest3b
          case hy3b => (intro w hSw; (try dsimp only at hSw); go_simp; (first | done | with_reducible rfl))
          try simp only [Act.put, List.getElem_toArray, List.getElem_cons_zero, List.getElem_cons_succ, List.setIfInBounds_toArray, List.set_cons_zero, List.set_cons_succ]
          refine wpL_takeT (i := 5) (v := ?v5b) rfl (by kernel_rfl) (by kernel_rfl) (by kernel_rfl) (by kernel_rfl) (fun _ _ _ h => h) (Or.inl ⟨by rfl, ?hy5b⟩) (fun _ => HS0) ?rest5b
          case hy5b => (intro w hSw; (try dsimp only at hSw); go_simp; (first | done | with_reducible rfl))
          try simp only [Act.put, List.getElem_toArray, List.getElem_cons_zero, List.getElem_cons_succ, List.setIfInBounds_toArray, List.set_cons_zero, List.set_cons_succ]
          refine wpL_takeT (i := 6) (v := ?v6b) rfl (by kernel_rfl) (by kernel_rfl) (by kernel_rfl) (by kernel_rfl) (fun _ _ _ h => h) (Or.inl ⟨by rfl, ?hy6b⟩) (fun _ => HS0) ?rest6b
          case hy6b => (intro w hSw; (try dsimp only at hSw); go_simp; (first | done | with_reducible rfl))
          try simp only [Act.put, List.getElem_toArray, List.getElem_cons_zero, List.getElem_cons_succ, List.setIfInBounds_toArray, List.set_cons_zero, List.set_cons_succ]
          refine wpL_takeT (i := 7) (v := ?v7b) rfl (by kernel_rfl) (by kernel_rfl) (by kernel_rfl) (by kernel_rfl) (fun _ _ _ h => h) (Or.inl ⟨by rfl, ?hy7b⟩) (fun _ => HS0) ?rest7b
          case hy7b => (intro w hSw; (try dsimp only at hSw); go_simp; (first | done | with_reducible rfl))
          try simp only [Act.put, List.getElem_toArray, List.getElem_cons_zero, List.getElem_cons_succ, List.setIfInBounds_toArray, List.set_cons_zero, List.set_cons_succ]
          refine wpL_take (i := 8) (v := ?v8b) rfl (by kernel_rfl) (by kernel_rfl) (by kernel_rfl) (by kernel_rfl) (by kernel_rfl) (by kernel_rfl) (fun _ _ _ h => h) (Or.inl ⟨by rfl, ?hy8b⟩) HS0 ?rest8b
          case hy8b => (intro w hSw; (try dsimp only at hSw); go_simp; (first | done | with_reducible rfl))
          try simp only [Act.put, List.getElem_toArray, List.getElem_cons_zero, List.getElem_cons_succ, List.setIfInBounds_toArray, List.set_cons_zero, List.set_cons_succ]
          refine wpL_takeT (i := 11) (v := ?v11b) rfl (by kernel_rfl) (by kernel_rfl) (by kernel_rfl) (by kernel_rfl) (fun _ _ _ h => h) (Or.inl ⟨by rfl, ?hy11b⟩) (fun _ => HS0) ?rest11b
          case hy11b => (intro w hSw; (try dsimp only at hSw); go_simp; (first | done | with_reducible rfl))
          try simp only [Act.put, List.getElem_toArray, List.getElem_cons_zero, List.getElem_cons_succ, List.setIfInBounds_toArray, List.set_cons_zero, List.set_cons_succ]
          refine wpL_takeT (i := 12) (v := ?v12b) rfl (by kernel_rfl) (by kernel_rfl) (by kernel_rfl) (by kernel_rfl) (fun _ _ _ h => h) (Or.inl ⟨by rfl, ?hy12b⟩) (fun _ => HS0) ?rest12b
          case hy12b => (intro w hSw; (try dsimp only at hSw); go_simp; (first | done | with_reducible rfl))
          try simp only [Act.put, List.getElem_toArray, List.getElem_cons_zero, List.getElem_cons_succ, List.setIfInBounds_toArray, List.set_cons_zero, List.set_cons_succ]
          refine wpL_takeT (i := 13) (v := ?v13b) rfl (by kernel_rfl) (by kernel_rfl) (by kernel_rfl) (by kernel_rfl) (fun _ _ _ h => h) (Or.inl ⟨by rfl, ?hy13b⟩) (fun _ => HS0) ?rest13b
          case hy13b => (intro w hSw; (try dsimp only at hSw); go_simp; (first | done | with_reducible rfl))
          try simp only [Act.put, List.getElem_toArray, List.getElem_cons_zero, List.getElem_cons_succ, List.setIfInBounds_toArray, List.set_cons_zero, List.set_cons_succ]
          clear hcut1 hcut2 HS0
          refine wpL_ready (rs := [0, 9]) (by kernel_rfl) (by simp) (AllL.cons rfl (fun K hK => ?_) (AllL.cons rfl (fun K hK => ?_) AllL.nil))
          · skip
            refine Kd.R_lit_step Kd.string wS.heap.size 9 (by rfl) rfl (xs := ([] : List ByteArray)) (inner := []) (ok := fun _ => True) (okp := fun _ => True) (by first | (go_simp; done) | (go_simp; rfl)) (Reps.none _ _) (fun _ hk => hk) trivial HB.out (below_size HB.out) (by simp) ?_
            intro v29 w1 hR hb hg hat
            have HV := Aside0.mk hR
            clear HB; have HB := Aside0.mk hb
            clear hR hb hg hat
            refine hK.out _ _ (HSB.out _ HB.out) ?_
            clear hK K
            try simp only [Act.put, List.getElem_toArray, List.getElem_cons_zero, List.getElem_cons_succ, List.setIfInBounds_toArray, List.set_cons_zero, List.set_cons_succ]
            refine wpL_ready (rs := [4, 9]) (by kernel_rfl) (by simp) (AllL.cons rfl (fun K hK => ?_) (AllL.cons rfl (fun K hK => ?_) AllL.nil))
            · skip
              refine Kd.R_append_rows_step Kd.string wS.heap.size (by rfl) (.tmp 29) (.tmp 32) 24 9 (.string ⟨#[]⟩) 16 rfl Tryd.underlying24 idx_infoS rfl (by decide) (by omega) v29 ([] : List ByteArray) (xs.take at_) _ _ _ (fun _ => True) (fun _ => False) rfl rfl HV.out (by have h := HCT.out _ HB.out; exact h) (fun _ _ h => h) (fun _ h => h.elim) (fun _ _ => trivial) HB.out (below_size HB.out) (by have := HLX.out; simp only [List.nil_append, List.length_append, List.length_take, List.length_cons, List.length_nil]; omega) ?_
              intro v33 w29 hR hb hg hat
              clear HV; have HV := Aside0.mk hR
              clear HB; have HB := Aside0.mk hb
              clear hR hb hg hat
              refine hK.out _ _ (HSB.out _ HB.out) ?_
              clear hK K
              try simp only [Act.put, List.getElem_toArray, List.getElem_cons_zero, List.getElem_cons_succ, List.setIfInBounds_toArray, List.set_cons_zero, List.set_cons_succ]
              refine wpL_ready (rs := [9]) (by kernel_rfl) (by simp) (AllL.cons rfl (fun K hK => ?_) AllL.nil)
              refine Kd.R_lit_step Kd.string wS.heap.size 9 (by rfl) rfl (xs := [x]) (inner := [.string x]) (ok := fun _ => True) (okp := fun _ => True) (by first | (go_simp; done) | (go_simp; rfl)) (Reps.snoc (Reps.none _ _) rfl rfl) (fun _ hk => hk) trivial HB.out (below_size HB.out) (by simp) ?_
              intro v38 w2 hR hb hg hat
              have HNE := Aside0.mk (ne_new HV.out hat)
              have HV1 := Aside0.mk (Kd.R_grown2 HV.out rfl hg (fun k e => by cases e)); clear HV; have HV := HV1; clear HV1
              have HX := Aside0.mk hR
              clear HB; have HB := Aside0.mk hb
              clear hR hb hg hat
              refine hK.out _ _ (HSB.out _ HB.out) ?_
              clear hK K
              try simp only [Act.put, List.getElem_toArray, List.getElem_cons_zero, List.getElem_cons_succ, List.setIfInBounds_toArray, List.set_cons_zero, List.set_cons_succ]
              obtain ⟨Ab, cb, eb, _, Cb⟩ := Kd.R_reads HX.out
              subst eb
              have HCb := Aside0.mk Cb
              clear Cb
              refine wpL_ready (rs := [10]) (by kernel_rfl) (by simp) (AllL.cons rfl (fun K hK => ?_) AllL.nil)
              refine Kd.R_append_rows_step Kd.string wS.heap.size (by rfl) (.tmp 33) (.tmp 38) 24 9 (.string ⟨#[]⟩) 16 rfl Tryd.underlying24 idx_infoS rfl (by decide) (by omega) v33 ([] ++ xs.take at_) [x] Ab 1 cb (fun _ => True) (fun _ => False) rfl rfl HV.out HCb.out (fun _ _ h => h) (fun _ h => h.elim) (fun _ _ => trivial) HB.out (below_size HB.out) (by have := HLX.out; simp only [List.nil_append, List.length_append, List.length_take, List.length_cons, List.length_nil]; omega) ?_
              intro v39 w33 hR hb hg hat
              clear HV; have HV := Aside0.mk hR
              clear HB; have HB := Aside0.mk hb
              clear hR hb hg hat
              refine hK.out _ _ (HSB.out _ HB.out) ?_
              clear hK K
              try simp only [Act.put, List.getElem_toArray, List.getElem_cons_zero, List.getElem_cons_succ, List.setIfInBounds_toArray, List.set_cons_zero, List.set_cons_succ]
              refine wpL_ready (rs := [14]) (by kernel_rfl) (by simp) (AllL.cons rfl (fun K hK => ?_) AllL.nil)
              refine Kd.R_append_rows_step Kd.string wS.heap.size (by rfl) (.tmp 39) (.tmp 42) 24 9 (.string ⟨#[]⟩) 16 rfl Tryd.underlying24 idx_infoS rfl (by decide) (by omega) v39 ([] ++ xs.take at_ ++ [x]) (xs.drop at_) _ _ _ (fun _ => True) (fun _ => False) rfl rfl HV.out (by have h := HCD.out _ HB.out; exact h) (fun _ _ h => h) (fun _ h => h.elim) (fun _ _ => trivial) HB.out (below_size HB.out) (by have := HLX.out; simp only [List.nil_append, List.length_append, List.length_take, List.length_cons, List.length_nil]; omega) ?_
              intro v43 w39 hR hb hg hat
              clear HV; have HV := Aside0.mk hR
              clear HB; have HB := Aside0.mk hb
              clear hR hb hg hat
              refine hK.out _ _ (HSB.out _ HB.out) ?_
              clear hK K
              try simp only [Act.put, List.getElem_toArray, List.getElem_cons_zero, List.getElem_cons_succ, List.setIfInBounds_toArray, List.set_cons_zero, List.set_cons_succ]
              refine wpL_ready (rs := [15]) (by kernel_rfl) (by simp) (AllL.cons rfl (fun K hK => ?_) AllL.nil)
              go_simp
              refine hK.out _ _ (HSB.out _ HB.out) ?_
              clear hK K
              try simp only [Act.put, List.getElem_toArray, List.getElem_cons_zero, List.getElem_cons_succ, List.setIfInBounds_toArray, List.set_cons_zero, List.set_cons_succ]
              refine wpL_done (by kernel_rfl) (NoPanic.normal ?_) _
              go_wp2_with fail
              go_roundg (ns.length - (i + 1))
              case measure => omega
              case rel => exact ⟨i + 1, rfl, by omega, ⟨by have h := HV.out; rw [HINS.out]; exact Kd.R_lower (by simpa [ins, HAT.out] using h) HWS.out⟩, ⟨below_weaken HBS.out HWS.out HB.out⟩⟩
            · skip
              refine Kd.R_lit_step Kd.string wS.heap.size 9 (by rfl) rfl (xs := [x]) (inner := [.string x]) (ok := fun _ => True) (okp := fun _ => True) (by first | (go_simp; done) | (go_simp; rfl)) (Reps.snoc (Reps.none _ _) rfl rfl) (fun _ hk => hk) trivial HB.out (below_size HB.out) (by simp) ?_
              intro v38 w2 hR hb hg hat
              have HNE := Aside0.mk (ne_new HV.out hat)
              have HV1 := Aside0.mk (Kd.R_grown2 HV.out rfl hg (fun k e => by cases e)); clear HV; have HV := HV1; clear HV1
              have HX := Aside0.mk hR
              clear HB; have HB := Aside0.mk hb
              clear hR hb hg hat
              refine hK.out _ _ (HSB.out _ HB.out) ?_
              clear hK K
              try simp only [Act.put, List.getElem_toArray, List.getElem_cons_zero, List.getElem_cons_succ, List.setIfInBounds_toArray, List.set_cons_zero, List.set_cons_succ]
              refine wpL_ready (rs := [4]) (by kernel_rfl) (by simp) (AllL.cons rfl (fun K hK => ?_) AllL.nil)
              refine Kd.R_append_rows_step Kd.string wS.heap.size (by rfl) (.tmp 29) (.tmp 32) 24 9 (.string ⟨#[]⟩) 16 rfl Tryd.underlying24 idx_infoS rfl (by decide) (by omega) v29 ([] : List ByteArray) (xs.take at_) _ _ _ (fun _ => True) (fun _ => False) rfl rfl HV.out (by have h := HCT.out _ HB.out; exact h) (fun _ _ h => h) (fun _ h => h.elim) (fun _ _ => trivial) HB.out (below_size HB.out) (by have := HLX.out; simp only [List.nil_append, List.length_append, List.length_take, List.length_cons, List.length_nil]; omega) ?_
              intro v33 w29 hR hb hg hat
              have HNE1 := Aside0.mk (ne_app HX.out HNE.out hat); have HX1 := Aside0.mk (Kd.R_grown2 HX.out rfl hg HNE.out); clear HX HNE; have HX := HX1; have HNE := HNE1; clear HX1 HNE1
              clear HV; have HV := Aside0.mk hR
              clear HB; have HB := Aside0.mk hb
              clear hR hb hg hat
              refine hK.out _ _ (HSB.out _ HB.out) ?_
              clear hK K
              try simp only [Act.put, List.getElem_toArray, List.getElem_cons_zero, List.getElem_cons_succ, List.setIfInBounds_toArray, List.set_cons_zero, List.set_cons_succ]
              obtain ⟨Ab, cb, eb, _, Cb⟩ := Kd.R_reads HX.out
              subst eb
              have HCb := Aside0.mk Cb
              clear Cb
              refine wpL_ready (rs := [10]) (by kernel_rfl) (by simp) (AllL.cons rfl (fun K hK => ?_) AllL.nil)
              refine Kd.R_append_rows_step Kd.string wS.heap.size (by rfl) (.tmp 33) (.tmp 38) 24 9 (.string ⟨#[]⟩) 16 rfl Tryd.underlying24 idx_infoS rfl (by decide) (by omega) v33 ([] ++ xs.take at_) [x] Ab 1 cb (fun _ => True) (fun _ => False) rfl rfl HV.out HCb.out (fun _ _ h => h) (fun _ h => h.elim) (fun _ _ => trivial) HB.out (below_size HB.out) (by have := HLX.out; simp only [List.nil_append, List.length_append, List.length_take, List.length_cons, List.length_nil]; omega) ?_
              intro v39 w33 hR hb hg hat
              clear HV; have HV := Aside0.mk hR
              clear HB; have HB := Aside0.mk hb
              clear hR hb hg hat
              refine hK.out _ _ (HSB.out _ HB.out) ?_
              clear hK K
              try simp only [Act.put, List.getElem_toArray, List.getElem_cons_zero, List.getElem_cons_succ, List.setIfInBounds_toArray, List.set_cons_zero, List.set_cons_succ]
              refine wpL_ready (rs := [14]) (by kernel_rfl) (by simp) (AllL.cons rfl (fun K hK => ?_) AllL.nil)
              refine Kd.R_append_rows_step Kd.string wS.heap.size (by rfl) (.tmp 39) (.tmp 42) 24 9 (.string ⟨#[]⟩) 16 rfl Tryd.underlying24 idx_infoS rfl (by decide) (by omega) v39 ([] ++ xs.take at_ ++ [x]) (xs.drop at_) _ _ _ (fun _ => True) (fun _ => False) rfl rfl HV.out (by have h := HCD.out _ HB.out; exact h) (fun _ _ h => h) (fun _ h => h.elim) (fun _ _ => trivial) HB.out (below_size HB.out) (by have := HLX.out; simp only [List.nil_append, List.length_append, List.length_take, List.length_cons, List.length_nil]; omega) ?_
              intro v43 w39 hR hb hg hat
              clear HV; have HV := Aside0.mk hR
              clear HB; have HB := Aside0.mk hb
              clear hR hb hg hat
              refine hK.out _ _ (HSB.out _ HB.out) ?_
              clear hK K
              try simp only [Act.put, List.getElem_toArray, List.getElem_cons_zero, List.getElem_cons_succ, List.setIfInBounds_toArray, List.set_cons_zero, List.set_cons_succ]
              refine wpL_ready (rs := [15]) (by kernel_rfl) (by simp) (AllL.cons rfl (fun K hK => ?_) AllL.nil)
              go_simp
              refine hK.out _ _ (HSB.out _ HB.out) ?_
              clear hK K
              try simp only [Act.put, List.getElem_toArray, List.getElem_cons_zero, List.getElem_cons_succ, List.setIfInBounds_toArray, List.set_cons_zero, List.set_cons_succ]
              refine wpL_done (by kernel_rfl) (NoPanic.normal ?_) _
              go_wp2_with fail
              go_roundg (ns.length - (i + 1))
              case measure => omega
              case rel => exact ⟨i + 1, rfl, by omega, ⟨by have h := HV.out; rw [HINS.out]; exact Kd.R_lower (by simpa [ins, HAT.out] using h) HWS.out⟩, ⟨below_weaken HBS.out HWS.out HB.out⟩⟩
          · skip
            refine Kd.R_lit_step Kd.string wS.heap.size 9 (by rfl) rfl (xs := [x]) (inner := [.string x]) (ok := fun _ => True) (okp := fun _ => True) (by first | (go_simp; done) | (go_simp; rfl)) (Reps.snoc (Reps.none _ _) rfl rfl) (fun _ hk => hk) trivial HB.out (below_size HB.out) (by simp) ?_
            intro v38 w2 hR hb hg hat
            have HX := Aside0.mk hR
            clear HB; have HB := Aside0.mk hb
            clear hR hb hg hat
            refine hK.out _ _ (HSB.out _ HB.out) ?_
            clear hK K
            try simp only [Act.put, List.getElem_toArray, List.getElem_cons_zero, List.getElem_cons_succ, List.setIfInBounds_toArray, List.set_cons_zero, List.set_cons_succ]
            refine wpL_ready (rs := [0]) (by kernel_rfl) (by simp) (AllL.cons rfl (fun K hK => ?_) AllL.nil)
            refine Kd.R_lit_step Kd.string wS.heap.size 9 (by rfl) rfl (xs := ([] : List ByteArray)) (inner := []) (ok := fun _ => True) (okp := fun _ => True) (by first | (go_simp; done) | (go_simp; rfl)) (Reps.none _ _) (fun _ hk => hk) trivial HB.out (below_size HB.out) (by simp) ?_
            intro v29 w1 hR hb hg hat
            have HNE := Aside0.mk (ne_old HX.out hat)
            have HX1 := Aside0.mk (Kd.R_grown2 HX.out rfl hg (fun k e => by cases e)); clear HX; have HX := HX1; clear HX1
            have HV := Aside0.mk hR
            clear HB; have HB := Aside0.mk hb
            clear hR hb hg hat
            refine hK.out _ _ (HSB.out _ HB.out) ?_
            clear hK K
            try simp only [Act.put, List.getElem_toArray, List.getElem_cons_zero, List.getElem_cons_succ, List.setIfInBounds_toArray, List.set_cons_zero, List.set_cons_succ]
            refine wpL_ready (rs := [4]) (by kernel_rfl) (by simp) (AllL.cons rfl (fun K hK => ?_) AllL.nil)
            refine Kd.R_append_rows_step Kd.string wS.heap.size (by rfl) (.tmp 29) (.tmp 32) 24 9 (.string ⟨#[]⟩) 16 rfl Tryd.underlying24 idx_infoS rfl (by decide) (by omega) v29 ([] : List ByteArray) (xs.take at_) _ _ _ (fun _ => True) (fun _ => False) rfl rfl HV.out (by have h := HCT.out _ HB.out; exact h) (fun _ _ h => h) (fun _ h => h.elim) (fun _ _ => trivial) HB.out (below_size HB.out) (by have := HLX.out; simp only [List.nil_append, List.length_append, List.length_take, List.length_cons, List.length_nil]; omega) ?_
            intro v33 w29 hR hb hg hat
            have HNE1 := Aside0.mk (ne_app HX.out HNE.out hat); have HX1 := Aside0.mk (Kd.R_grown2 HX.out rfl hg HNE.out); clear HX HNE; have HX := HX1; have HNE := HNE1; clear HX1 HNE1
            clear HV; have HV := Aside0.mk hR
            clear HB; have HB := Aside0.mk hb
            clear hR hb hg hat
            refine hK.out _ _ (HSB.out _ HB.out) ?_
            clear hK K
            try simp only [Act.put, List.getElem_toArray, List.getElem_cons_zero, List.getElem_cons_succ, List.setIfInBounds_toArray, List.set_cons_zero, List.set_cons_succ]
            obtain ⟨Ab, cb, eb, _, Cb⟩ := Kd.R_reads HX.out
            subst eb
            have HCb := Aside0.mk Cb
            clear Cb
            refine wpL_ready (rs := [10]) (by kernel_rfl) (by simp) (AllL.cons rfl (fun K hK => ?_) AllL.nil)
            refine Kd.R_append_rows_step Kd.string wS.heap.size (by rfl) (.tmp 33) (.tmp 38) 24 9 (.string ⟨#[]⟩) 16 rfl Tryd.underlying24 idx_infoS rfl (by decide) (by omega) v33 ([] ++ xs.take at_) [x] Ab 1 cb (fun _ => True) (fun _ => False) rfl rfl HV.out HCb.out (fun _ _ h => h) (fun _ h => h.elim) (fun _ _ => trivial) HB.out (below_size HB.out) (by have := HLX.out; simp only [List.nil_append, List.length_append, List.length_take, List.length_cons, List.length_nil]; omega) ?_
            intro v39 w33 hR hb hg hat
            clear HV; have HV := Aside0.mk hR
            clear HB; have HB := Aside0.mk hb
            clear hR hb hg hat
            refine hK.out _ _ (HSB.out _ HB.out) ?_
            clear hK K
            try simp only [Act.put, List.getElem_toArray, List.getElem_cons_zero, List.getElem_cons_succ, List.setIfInBounds_toArray, List.set_cons_zero, List.set_cons_succ]
            refine wpL_ready (rs := [14]) (by kernel_rfl) (by simp) (AllL.cons rfl (fun K hK => ?_) AllL.nil)
            refine Kd.R_append_rows_step Kd.string wS.heap.size (by rfl) (.tmp 39) (.tmp 42) 24 9 (.string ⟨#[]⟩) 16 rfl Tryd.underlying24 idx_infoS rfl (by decide) (by omega) v39 ([] ++ xs.take at_ ++ [x]) (xs.drop at_) _ _ _ (fun _ => True) (fun _ => False) rfl rfl HV.out (by have h := HCD.out _ HB.out; exact h) (fun _ _ h => h) (fun _ h => h.elim) (fun _ _ => trivial) HB.out (below_size HB.out) (by have := HLX.out; simp only [List.nil_append, List.length_append, List.length_take, List.length_cons, List.length_nil]; omega) ?_
            intro v43 w39 hR hb hg hat
            clear HV; have HV := Aside0.mk hR
            clear HB; have HB := Aside0.mk hb
            clear hR hb hg hat
            refine hK.out _ _ (HSB.out _ HB.out) ?_
            clear hK K
            try simp only [Act.put, List.getElem_toArray, List.getElem_cons_zero, List.getElem_cons_succ, List.setIfInBounds_toArray, List.set_cons_zero, List.set_cons_succ]
            refine wpL_ready (rs := [15]) (by kernel_rfl) (by simp) (AllL.cons rfl (fun K hK => ?_) AllL.nil)
            go_simp
            refine hK.out _ _ (HSB.out _ HB.out) ?_
            clear hK K
            try simp only [Act.put, List.getElem_toArray, List.getElem_cons_zero, List.getElem_cons_succ, List.setIfInBounds_toArray, List.set_cons_zero, List.set_cons_succ]
            refine wpL_done (by kernel_rfl) (NoPanic.normal ?_) _
            go_wp2_with fail
            go_roundg (ns.length - (i + 1))
            case measure => omega
            case rel => exact ⟨i + 1, rfl, by omega, ⟨by have h := HV.out; rw [HINS.out]; exact Kd.R_lower (by simpa [ins, HAT.out] using h) HWS.out⟩, ⟨below_weaken HBS.out HWS.out HB.out⟩⟩
    · have hd : decide ((i : Int) < (ns.length : Int)) = false := by simp; omega
      go_wp2
      go_ret
      refine ⟨_, rfl, ?_, HBW.out⟩
      have := HR.out
      rwa [List.take_of_length_le (by omega)] at this
end Go.Proofs.YtncmfomhigielaaDoor.Q
