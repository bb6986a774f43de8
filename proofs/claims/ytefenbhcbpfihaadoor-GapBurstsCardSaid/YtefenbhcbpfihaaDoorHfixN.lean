-- fix.Next: walked by hand (printed by wip/gennext.py).
-- HAND pendulum/fix.Next rounds=0 making=1
-- NEEDS pendulum/tick.Ceil pendulum/tick.Sum pendulum/demand.Whole pendulum/burst.Most pendulum/fix.Dear pendulum/fix.Ahead
import Derived.Test.YtefenbhcbpfihaaDoorM0
import Derived.Test.YtefenbhcbpfihaaDoorHfixD
import Derived.Test.YtefenbhcbpfihaaDoorHfixH
import Derived.IntWalk
import Derived.WalkSpells
import Derived.BigQuiet
namespace Go.Proofs.YtefenbhcbpfihaaDoor.Q
open Go.RowKit Go.Proofs.YtefenbhcbpfihaaDoorW.PrintWords Go.Proofs.YtefenbhcbpfihaaDoorW.PrintLast Go.Proofs.YtefenbhcbpfihaaDoorW.PrintMore
attribute [local go_sem] max2_int min2_int max_two min_two max_three min_three max_four min_four   -- for this text's walks alone
set_option linter.unusedVariables false
set_option linter.unusedSimpArgs false

def fix_Next.f (b : Int) (ts : List TK) (i g w : Int) : Option (Int × Bool) := if (∀ t ∈ ts, Dem t) ∧ (1 ≤ b ∧ b ≤ 1000) ∧ (0 ≤ i ∧ i < (ts.length : Int) ∧ ts.length ≤ 16) ∧ (1 ≤ g ∧ g ≤ 1049576) ∧ (0 ≤ w ∧ w ≤ 1048576) then some (nextF b ts (rd_T39 ts i) g w, true) else none
/-- The call's memory: the set's box, the box of the parts. -/
def NxS (w0 W : World) (gs gp : Nat) (b : Int) (A : Option Addr) (c : Nat) (ts : List TK) (v : Value) (ps : List Int) : Prop :=
 W.heap[gs]? = some (.cells #[.int .i64 b, .slice A ts.length c] 24 (0, 0)) ∧ W.heap[gp]? = some (.cells #[v] 28 (0, 0)) ∧
 Kd.R (Kd.int .i64) 3 W w0.heap.size (fun _ => True) v ps ∧ Below w0.heap.size w0 W ∧ gs ≠ gp ∧ w0.heap.size ≤ gp ∧ w0.heap.size ≤ gs
theorem NxS.below {w0 W W' : World} {gs gp : Nat} {b : Int} {A : Option Addr} {c : Nat} {ts : List TK} {v : Value} {ps : List Int} (h : NxS w0 W gs gp b A c ts v ps) (hb : Below W.heap.size W W') : NxS w0 W' gs gp b A c ts v ps := by
 obtain ⟨h1, h2, h3, h4, h5, h6, h7⟩ := h
 exact ⟨blk_below h1 hb, blk_below h2 hb, Kd.R_below h3 hb, below_step h4 hb, h5, h6, h7⟩
/-- The closure's part is added. -/
theorem NxS.add {w0 W : World} {gs gp : Nat} {b : Int} {A : Option Addr} {c : Nat} {ts : List TK} {v : Value} {ps : List Int} (h : NxS w0 W gs gp b A c ts v ps) (n each : Int)
  (h0 : 0 ≤ n) (h1 : n ≤ 1000000000000000000) (h2 : 0 ≤ each) (h3 : each ≤ 1000000000000000000) (h4 : n * each ≤ 1000000000000000000) (hl : ps.length ≤ 1000) :
  Calls Tryd.prog 38 #[.int .i64 n, .int .i64 each, .pointer (some ⟨gp, 0, none⟩)] W fun e W' => e = .returned (.bool true) ∧ ∃ v', NxS w0 W' gs gp b A c ts v' (ps ++ [n * each]) := by
 obtain ⟨k1, k2, k3, k4, k5, k6, k7⟩ := h
 refine (add_ask gp v ps n each w0 W k2 k3 k4 k6 h0 h1 h2 h3 h4 hl).mono ?_
 rintro e W' ⟨rfl, hB, ⟨v', hG, hR⟩, hK⟩
 exact ⟨rfl, v', hK gs _ _ k1 (by decide) k5, hG, hR, hB, k5, k6, k7⟩
theorem NxS.start {w0 WB W : World} {gs gp : Nat} {b : Int} {A : Option Addr} {c : Nat} {ts : List TK} {u v : Value} {ps : List Int} (h1 : Below w0.heap.size w0 WB) (h2 : WB.heap[gs]? = some (.cells #[.int .i64 b, .slice A ts.length c] 24 (0, 0))) (hgw : w0.heap.size ≤ gs) (h3 : Below WB.heap.size WB W)
  (h4 : W.heap[gp]? = some (.cells #[u] 28 (0, 0))) (h5 : WB.heap.size ≤ gp) (h6 : Kd.R (Kd.int .i64) 3 W w0.heap.size (fun _ => True) v ps) : NxS w0 (W.setCell ⟨gp, 0, none⟩ v) gs gp b A c ts v ps := by
 have hlt := blk_lt h2
 have hs := h1.size
 exact ⟨(Below.heap_setCell W ⟨gp, 0, none⟩ v gs (show gs ≠ gp from by omega)).trans (blk_below h2 h3), blk_put h4 0 v rfl, Kd.R_set h6 h4 (by decide) 0 v, (below_step h1 h3).setCell (show w0.heap.size ≤ gp from by omega) v, by omega, by omega, hgw⟩
theorem lit2_R (W : World) (base : Nat) (a b : Int) (hb : base ≤ W.heap.size) : Kd.R (Kd.int .i64) 3 (W.alloc (.cells #[.int .i64 a, .int .i64 b] 3 (0, 0))) base (fun _ => True) (.slice (some ⟨W.heap.size, 0, none⟩) 2 2) [a, b] :=
 Kd.R_of_own (by
  have h := World.ownsRow_lit (base := base) (e := 3) (size := 1) W #[.int .i64 a, .int .i64 b] 2 hb (by decide) rfl
  exact h) (fun _ _ => trivial)
set_option maxHeartbeats 8000000 in
set_option maxRecDepth 100000 in
theorem next_ask (b : Int) (A : Option Addr) (c : Nat) (ts : List TK) (i : Nat) (g w : Int) (W : World) (hC : Kd.C k39 W A ts.length ts) (hc : ts.length ≤ c) (hD : ∀ t ∈ ts, Dem t) (hi : i < ts.length) (hl : ts.length ≤ 16) (hb1 : 1 ≤ b) (hb2 : b ≤ 1000) (hg1 : 1 ≤ g) (hg2 : g ≤ 1049576) (hw1 : 0 ≤ w) (hw2 : w ≤ 1048576) :
  Calls Tryd.prog 29 #[.agg #[.int .i64 b, .slice A ts.length c], .int .i64 (i : Int), .int .i64 g, .int .i64 w] W fun e w' => e = .returned (.tuple #[.int .i64 (nextF b ts (rd_T39 ts (i : Int)) g w), .bool true]) ∧ Below W.heap.size W w' := by
 have HC := Aside0.mk hC
 have HD := Aside0.mk hD
 obtain ⟨t, ht⟩ : ∃ t, rd_T39 ts (i : Int) = t := ⟨_, rfl⟩
 have HTI : ts[i]? = some t := by rw [← ht]; simp [rd_T39, List.getD_eq_getElem?_getD, List.getElem?_eq_getElem hi]
 have hdt := hD t (List.mem_of_getElem? HTI)
 obtain ⟨wh, hwh⟩ : ∃ wh, wholeF t = wh := ⟨_, rfl⟩
 obtain ⟨ah, hah⟩ : ∃ ah, aheadL t.f10 ts 0 = ah := ⟨_, rfl⟩
 obtain ⟨de, hde⟩ : ∃ de, dearL t.f10 ts 0 = de := ⟨_, rfl⟩
 obtain ⟨mo, hmo⟩ : ∃ mo, mostF w b g = mo := ⟨_, rfl⟩
 obtain ⟨nx, hnx⟩ : ∃ nx, nextF b ts t g w = nx := ⟨_, rfl⟩
 have HWH : Aside0 (demand_Whole.f 1 t.f0 t.f1 t.f2 t.f3 t.f4 t.f5 t.f6 t.f7 t.f8 t.f9 t.f10 = some wh) := ⟨by rw [whole_eval hdt, hwh]⟩
 have HMO : Aside0 (burst_Most.f 1 w b g = some mo) := ⟨by rw [most_eval hw1 hw2 hb1 hb2 hg1 hg2, hmo]⟩
 have HAH : Aside0 (∀ w', Below W.heap.size W w' → Calls Tryd.prog 37 #[.agg #[.int .i64 b, .slice A ts.length c], .int .i64 (i : Int)] w' fun e w'' => e = .returned (.int .i64 ah) ∧ Below w'.heap.size w' w'') := ⟨fun w' hb => by
  have h := ahead_ask b A c ts i w' (Kd.C_below hC hb) hc hD hi (by omega)
  rw [ht, hah] at h
  exact h⟩
 have HDE : Aside0 (∀ w', Below W.heap.size W w' → Calls Tryd.prog 41 #[.agg #[.int .i64 b, .slice A ts.length c], .int .i64 (i : Int)] w' fun e w'' => e = .returned (.int .i64 de) ∧ Below w'.heap.size w' w'') := ⟨fun w' hb => by
  have h := dear_ask b A c ts i w' (Kd.C_below hC hb) hc hD hi (by omega)
  rw [ht, hde] at h
  exact h⟩
 have hnb := next_bound hb1 hb2 hg1 hw1 hw2 hD hdt hl
 have hab := add_bound hw1 hw2 hb1 hb2 hg1 t.f10 ts hD
 have hmb := most_bound hw1 hw2 hb1 hb2 hg1
 have hwb := hdt.whole
 have hhb := ahead_bound t.f10 ts hD
 have HNX : Aside0 (wh + (ah + (mo * (b * de) + 0)) + aboveL t.f10 w ts = nx) := ⟨by rw [← hnx, ← hwh, ← hah, ← hde, ← hmo]; unfold nextF; omega⟩
 rw [hnx] at hnb
 rw [hde, hmo] at hab
 rw [hmo] at hmb
 rw [hwh] at hwb
 rw [hah] at hhb
 have B1 : 0 ≤ mo := hmb.1
 have B2 : mo ≤ 1000000000000000000 := by omega
 have B3 : 0 ≤ b * de := hab.1
 have B4 : b * de ≤ 1000000000000000000 := by omega
 have B5 : mo * (b * de) ≤ 1000000000000000000 := by omega
 have HB6 : Aside0 (0 ≤ wh ∧ 0 ≤ ah ∧ 0 ≤ mo * (b * de) ∧ nx ≤ 20000000000000000) := ⟨by omega⟩
 have hmul : IntKind.i64.wrap (b * de) = b * de := (i64_w _).trans (w64_ok (by omega) (by omega))
 have HPT := Aside0.mk ht
 rw [ht, hnx]
 clear hnb hab hmb hwb hhb hwh hah hde hmo hnx
 obtain ⟨WB, hWB⟩ : ∃ WB, WB = W.alloc (.cells #[.int .i64 b, .slice A ts.length c] 24 (0, 0)) := ⟨_, rfl⟩
 obtain ⟨gs, hgs⟩ : ∃ gs, W.heap.size = gs := ⟨_, rfl⟩
 have HWB : Aside0 (Below W.heap.size W WB) := ⟨by rw [hWB]; exact below_alloc (Below.refl _ _) _⟩
 have HGS : Aside0 (WB.heap[gs]? = some (.cells #[.int .i64 b, .slice A ts.length c] 24 (0, 0))) := ⟨by rw [hWB, ← hgs]; exact blk_new W _⟩
 have hgw : W.heap.size ≤ gs := Nat.le_of_eq hgs
 obtain ⟨ad, e, x0, x1, x2, x3, x4, x5, x6, x7, x8, x9, x10⟩ := at_T39 (Kd.C_below hC HWB.out) (i : Int) (by omega) (by omega)
 cases e
 simp only [Int.toNat_natCast] at x0 x1 x2 x3 x4 x5 x6 x7 x8 x9 x10
 rw [ht] at x0 x1 x2 x3 x4 x5 x6 x7 x8 x9 x10
 have HWBE := Aside0.mk hWB
 have HCK := Aside0.mk hD
 have p0 : (0 : Int) ≤ i := by omega
 have p1 : (i : Int) < (ts.length : Int) := by omega
 have KP : Aside0 (∀ w', Below WB.heap.size WB w' → (fun w' : World => w'.cell? ⟨gs, 0, none⟩ = some (.int .i64 b) ∧ w'.cell? ⟨gs, 1, none⟩ = some (.slice (some ad) ts.length c) ∧ w'.cell? (ad.add (i * 11)) = some (.string t.f0) ∧ w'.cell? ⟨(ad.add (i * 11)).block, (ad.add (i * 11)).off + 1, none⟩ = some (.int .i64 t.f1) ∧ w'.cell? ⟨(ad.add (i * 11)).block, (ad.add (i * 11)).off + 2, none⟩ = some (.int .i64 t.f2) ∧ w'.cell? ⟨(ad.add (i * 11)).block, (ad.add (i * 11)).off + 3, none⟩ = some (.int .i64 t.f3) ∧ w'.cell? ⟨(ad.add (i * 11)).block, (ad.add (i * 11)).off + 4, none⟩ = some (.int .i64 t.f4) ∧ w'.cell? ⟨(ad.add (i * 11)).block, (ad.add (i * 11)).off + 5, none⟩ = some (.int .i64 t.f5) ∧ w'.cell? ⟨(ad.add (i * 11)).block, (ad.add (i * 11)).off + 6, none⟩ = some (.int .i64 t.f6) ∧ w'.cell? ⟨(ad.add (i * 11)).block, (ad.add (i * 11)).off + 7, none⟩ = some (.int .i64 t.f7) ∧ w'.cell? ⟨(ad.add (i * 11)).block, (ad.add (i * 11)).off + 8, none⟩ = some (.int .i64 t.f8) ∧ w'.cell? ⟨(ad.add (i * 11)).block, (ad.add (i * 11)).off + 9, none⟩ = some (.int .i64 t.f9) ∧ w'.cell? ⟨(ad.add (i * 11)).block, (ad.add (i * 11)).off + 10, none⟩ = some (.int .i64 t.f10)) w') := ⟨fun w' hb => ⟨blk_cell (blk_below HGS.out hb) 0, blk_cell (blk_below HGS.out hb) 1, pw_cell_below hb x0, pw_cell_below hb x1, pw_cell_below hb x2, pw_cell_below hb x3, pw_cell_below hb x4, pw_cell_below hb x5, pw_cell_below hb x6, pw_cell_below hb x7, pw_cell_below hb x8, pw_cell_below hb x9, pw_cell_below hb x10⟩⟩
 have KP3 : Aside0 (∀ w' (gp' : Nat) (v' : Value) (ps' : List Int), NxS W w' gs gp' b (some ad) c ts v' ps' → (fun w' : World => w'.cell? ⟨gs, 0, none⟩ = some (.int .i64 b) ∧ w'.cell? ⟨gs, 1, none⟩ = some (.slice (some ad) ts.length c)) w') := ⟨fun w' gp' v' ps' h => ⟨blk_cell h.1 0, blk_cell h.1 1⟩⟩
 clear hC hD ht HTI hdt hWB x0 x1 x2 x3 x4 x5 x6 x7 x8 x9 x10 HCK
 go_enter Tryd.func29, Tryd.ntmps29
 go_upto_region 1 with fail
 rw [← HWBE.out]
 go_cut [10] (fun v10 wc => ∃ gp v, v10 = .pointer (some ⟨gp, 0, none⟩) ∧ Aside0 (NxS W wc gs gp b (some ad) c ts v [wh, ah]))
 case first =>
  obtain ⟨wd, hwd⟩ : ∃ wd, wd = WB.drew := ⟨_, rfl⟩
  have HB : Aside0 (Below WB.heap.size WB wd) := ⟨by rw [hwd]; exact below_drew (Below.refl _ _)⟩
  refine wp_region_noPanic ?_
  refine wp_region_late [] (fun w' : World => w'.cell? ⟨gs, 0, none⟩ = some (.int .i64 b) ∧ w'.cell? ⟨gs, 1, none⟩ = some (.slice (some ad) ts.length c) ∧ w'.cell? (ad.add (i * 11)) = some (.string t.f0) ∧ w'.cell? ⟨(ad.add (i * 11)).block, (ad.add (i * 11)).off + 1, none⟩ = some (.int .i64 t.f1) ∧ w'.cell? ⟨(ad.add (i * 11)).block, (ad.add (i * 11)).off + 2, none⟩ = some (.int .i64 t.f2) ∧ w'.cell? ⟨(ad.add (i * 11)).block, (ad.add (i * 11)).off + 3, none⟩ = some (.int .i64 t.f3) ∧ w'.cell? ⟨(ad.add (i * 11)).block, (ad.add (i * 11)).off + 4, none⟩ = some (.int .i64 t.f4) ∧ w'.cell? ⟨(ad.add (i * 11)).block, (ad.add (i * 11)).off + 5, none⟩ = some (.int .i64 t.f5) ∧ w'.cell? ⟨(ad.add (i * 11)).block, (ad.add (i * 11)).off + 6, none⟩ = some (.int .i64 t.f6) ∧ w'.cell? ⟨(ad.add (i * 11)).block, (ad.add (i * 11)).off + 7, none⟩ = some (.int .i64 t.f7) ∧ w'.cell? ⟨(ad.add (i * 11)).block, (ad.add (i * 11)).off + 8, none⟩ = some (.int .i64 t.f8) ∧ w'.cell? ⟨(ad.add (i * 11)).block, (ad.add (i * 11)).off + 9, none⟩ = some (.int .i64 t.f9) ∧ w'.cell? ⟨(ad.add (i * 11)).block, (ad.add (i * 11)).off + 10, none⟩ = some (.int .i64 t.f10)) (by kernel_rfl) ?_
  rw [← hwd]
  clear hwd
  have hs0 := KP.out wd HB.out
  refine wpL_takeT (i := 0) (v := ?v0) rfl (by kernel_rfl) (by kernel_rfl) (by kernel_rfl) (by kernel_rfl) (fun _ _ _ h => h) (Or.inl ⟨by rfl, ?hy0⟩) (fun _ => hs0) ?rest0
  case hy0 => (intro w hSw; (try dsimp only at hSw); go_simp; (first | done | with_reducible rfl))
  try simp only [Act.put, List.getElem_toArray, List.getElem_cons_zero, List.getElem_cons_succ, List.setIfInBounds_toArray, List.set_cons_zero, List.set_cons_succ]
  refine wpL_take (i := 1) (v := ?v1) rfl (by kernel_rfl) (by kernel_rfl) (by kernel_rfl) (by kernel_rfl) (by kernel_rfl) (by kernel_rfl) (fun _ _ _ h => h) (Or.inl ⟨by rfl, ?hy1⟩) hs0 ?rest1
  case hy1 => (intro w hSw; (try dsimp only at hSw); (try obtain ⟨h0, h1, h2, h3, h4, h5, h6, h7, h8, h9, h10, h11, h12⟩ := hSw); go_simp; (first | done | with_reducible rfl))
  try simp only [Act.put, List.getElem_toArray, List.getElem_cons_zero, List.getElem_cons_succ, List.setIfInBounds_toArray, List.set_cons_zero, List.set_cons_succ]
  refine wpL_takeT (i := 2) (v := ?v2) rfl (by kernel_rfl) (by kernel_rfl) (by kernel_rfl) (by kernel_rfl) (fun _ _ _ h => h) (Or.inl ⟨by rfl, ?hy2⟩) (fun _ => hs0) ?rest2
  case hy2 => (intro w hSw; (try dsimp only at hSw); go_simp; (first | done | with_reducible rfl))
  try simp only [Act.put, List.getElem_toArray, List.getElem_cons_zero, List.getElem_cons_succ, List.setIfInBounds_toArray, List.set_cons_zero, List.set_cons_succ]
  refine wpL_takeT (i := 3) (v := ?v3) rfl (by kernel_rfl) (by kernel_rfl) (by kernel_rfl) (by kernel_rfl) (fun _ _ _ h => h) (Or.inl ⟨by rfl, ?hy3⟩) (fun _ => hs0) ?rest3
  case hy3 => (intro w hSw; (try dsimp only at hSw); go_simp; (first | done | with_reducible rfl))
  try simp only [Act.put, List.getElem_toArray, List.getElem_cons_zero, List.getElem_cons_succ, List.setIfInBounds_toArray, List.set_cons_zero, List.set_cons_succ]
  refine wpL_take (i := 4) (v := ?v4) rfl (by kernel_rfl) (by kernel_rfl) (by kernel_rfl) (by kernel_rfl) (by kernel_rfl) (by kernel_rfl) (fun _ _ _ h => h) (Or.inl ⟨by rfl, ?hy4⟩) hs0 ?rest4
  case hy4 => (intro w hSw; (try dsimp only at hSw); (try obtain ⟨h0, h1, h2, h3, h4, h5, h6, h7, h8, h9, h10, h11, h12⟩ := hSw); go_simp; (first | done | with_reducible rfl))
  try simp only [Act.put, List.getElem_toArray, List.getElem_cons_zero, List.getElem_cons_succ, List.setIfInBounds_toArray, List.set_cons_zero, List.set_cons_succ]
  refine wpL_take (i := 6) (v := ?v6) rfl (by kernel_rfl) (by kernel_rfl) (by kernel_rfl) (by kernel_rfl) (by kernel_rfl) (by kernel_rfl) (fun _ _ _ h => h) (Or.inl ⟨by rfl, ?hy6⟩) hs0 ?rest6
  case hy6 => (intro w hSw; (try dsimp only at hSw); (try obtain ⟨h0, h1, h2, h3, h4, h5, h6, h7, h8, h9, h10, h11, h12⟩ := hSw); go_simp; (first | done | with_reducible rfl))
  try simp only [Act.put, List.getElem_toArray, List.getElem_cons_zero, List.getElem_cons_succ, List.setIfInBounds_toArray, List.set_cons_zero, List.set_cons_succ]
  refine wpL_takeT (i := 7) (v := ?v7) rfl (by kernel_rfl) (by kernel_rfl) (by kernel_rfl) (by kernel_rfl) (fun _ _ _ h => h) (Or.inl ⟨by rfl, ?hy7⟩) (fun _ => hs0) ?rest7
  case hy7 => (intro w hSw; (try dsimp only at hSw); go_simp; (first | done | with_reducible rfl))
  try simp only [Act.put, List.getElem_toArray, List.getElem_cons_zero, List.getElem_cons_succ, List.setIfInBounds_toArray, List.set_cons_zero, List.set_cons_succ]
  clear hs0
  refine wpL_ready (rs := [5, 10]) (by kernel_rfl) (by simp) (AllL.cons rfl (fun K hK => ?_) (AllL.cons rfl (fun K hK => ?_) AllL.nil))
  ·skip
   go_simp
   refine (demand_Whole.calls 1 t.f0 t.f1 t.f2 t.f3 t.f4 t.f5 t.f6 t.f7 t.f8 t.f9 t.f10 wh _ HWH.out).mono ?_
   rintro e wv1 ⟨rfl, hb⟩
   have HB2 := Aside0.mk (below_step HB.out hb); clear HB; have HB := HB2; clear HB2
   clear hb
   go_wp2_with fail
   refine hK.out _ _ (KP.out _ HB.out) ?_
   clear hK K
   try simp only [Act.put, List.getElem_toArray, List.getElem_cons_zero, List.getElem_cons_succ, List.setIfInBounds_toArray, List.set_cons_zero, List.set_cons_succ]
   refine wpL_ready (rs := [8, 10]) (by kernel_rfl) (by simp) (AllL.cons rfl (fun K hK => ?_) (AllL.cons rfl (fun K hK => ?_) AllL.nil))
   ·skip
    go_simp
    refine (HAH.out wv1 (below_step HWB.out HB.out)).mono ?_
    rintro e wv2 ⟨rfl, hb⟩
    have HB2 := Aside0.mk (below_step HB.out hb); clear HB; have HB := HB2; clear HB2
    clear hb
    go_wp2_with fail
    refine hK.out _ _ (KP.out _ HB.out) ?_
    clear hK K
    try simp only [Act.put, List.getElem_toArray, List.getElem_cons_zero, List.getElem_cons_succ, List.setIfInBounds_toArray, List.set_cons_zero, List.set_cons_succ]
    refine wpL_ready (rs := [9, 10]) (by kernel_rfl) (by simp) (AllL.cons rfl (fun K hK => ?_) (AllL.cons rfl (fun K hK => ?_) AllL.nil))
    ·skip
     go_simp
     obtain ⟨gq, hgq⟩ : ∃ gq, wv2.heap.size = gq := ⟨_, rfl⟩
     obtain ⟨wv3, hnw⟩ : ∃ wq, wq = wv2.alloc (.cells #[.int .i64 wh, .int .i64 ah] 3 (0, 0)) := ⟨_, rfl⟩
     have HR : Aside0 (Kd.R (Kd.int .i64) 3 wv3 W.heap.size (fun _ => True) (.slice (some ⟨gq, 0, none⟩) 2 2) [wh, ah]) := ⟨by rw [hnw, ← hgq]; exact lit2_R _ _ _ _ (Nat.le_trans HWB.out.size HB.out.size)⟩
     have HB2 := Aside0.mk ((by rw [hnw]; exact below_alloc HB.out _ : Below WB.heap.size WB wv3)); clear HB; have HB := HB2; clear HB2
     rw [← hnw, hgq]
     clear hnw hgq
     refine hK.out _ _ (KP.out _ HB.out) ?_
     clear hK K
     try simp only [Act.put, List.getElem_toArray, List.getElem_cons_zero, List.getElem_cons_succ, List.setIfInBounds_toArray, List.set_cons_zero, List.set_cons_succ]
     refine wpL_ready (rs := [10]) (by kernel_rfl) (by simp) (AllL.cons rfl (fun K hK => ?_) AllL.nil)
     go_simp
     obtain ⟨gp, hgp⟩ : ∃ gp, wv3.heap.size = gp := ⟨_, rfl⟩
     obtain ⟨wv4, hnw⟩ : ∃ wq, wq = wv3.alloc (.cells #[.slice none 0 0] 28 (0, 0)) := ⟨_, rfl⟩
     have HG : Aside0 (wv4.heap[gp]? = some (.cells #[.slice none 0 0] 28 (0, 0))) := ⟨by rw [hnw, ← hgp]; exact blk_new _ _⟩
     have HGP : Aside0 (WB.heap.size ≤ gp) := ⟨by rw [← hgp]; exact HB.out.size⟩
     have HR2 := Aside0.mk ((by rw [hnw]; exact Kd.R_alloc HR.out _ : Kd.R (Kd.int .i64) 3 wv4 W.heap.size (fun _ => True) (.slice (some ⟨gq, 0, none⟩) 2 2) [wh, ah])); clear HR; have HR := HR2; clear HR2
     have HB2 := Aside0.mk ((by rw [hnw]; exact below_alloc HB.out _ : Below WB.heap.size WB wv4)); clear HB; have HB := HB2; clear HB2
     rw [← hnw, hgp]
     clear hnw hgp
     refine hK.out _ _ (KP.out _ HB.out) ?_
     clear hK K
     try simp only [Act.put, List.getElem_toArray, List.getElem_cons_zero, List.getElem_cons_succ, List.setIfInBounds_toArray, List.set_cons_zero, List.set_cons_succ]
     refine wpL_ready (rs := [11]) (by kernel_rfl) (by simp) (AllL.cons rfl (fun K hK => ?_) AllL.nil)
     have z0 : wv4.cell? ⟨gp, 0, none⟩ = some (.slice none 0 0) := blk_cell HG.out 0
     have z1 := blk_frozen HG.out 0
     go_simp
     refine hK.out _ _ (KP.out _ (HB.out.setCell HGP.out _)) ?_
     clear hK K z0 z1
     try simp only [Act.put, List.getElem_toArray, List.getElem_cons_zero, List.getElem_cons_succ, List.setIfInBounds_toArray, List.set_cons_zero, List.set_cons_succ]
     refine wpL_done (by kernel_rfl) (NoPanic.normal ?_) _
     have HF := Aside0.mk (NxS.start HWB.out HGS.out hgw HB.out HG.out HGP.out HR.out)
     clear HG HR HB HGP
     go_wp2_with fail
     go_meet
     exact ⟨gp, _, by first | rfl | simp, HF⟩
    ·skip
     go_simp
     obtain ⟨gp, hgp⟩ : ∃ gp, wv2.heap.size = gp := ⟨_, rfl⟩
     obtain ⟨wv5, hnw⟩ : ∃ wq, wq = wv2.alloc (.cells #[.slice none 0 0] 28 (0, 0)) := ⟨_, rfl⟩
     have HG : Aside0 (wv5.heap[gp]? = some (.cells #[.slice none 0 0] 28 (0, 0))) := ⟨by rw [hnw, ← hgp]; exact blk_new _ _⟩
     have HGP : Aside0 (WB.heap.size ≤ gp) := ⟨by rw [← hgp]; exact HB.out.size⟩
     have HB2 := Aside0.mk ((by rw [hnw]; exact below_alloc HB.out _ : Below WB.heap.size WB wv5)); clear HB; have HB := HB2; clear HB2
     rw [← hnw, hgp]
     clear hnw hgp
     refine hK.out _ _ (KP.out _ HB.out) ?_
     clear hK K
     try simp only [Act.put, List.getElem_toArray, List.getElem_cons_zero, List.getElem_cons_succ, List.setIfInBounds_toArray, List.set_cons_zero, List.set_cons_succ]
     refine wpL_ready (rs := [9]) (by kernel_rfl) (by simp) (AllL.cons rfl (fun K hK => ?_) AllL.nil)
     go_simp
     obtain ⟨gq, hgq⟩ : ∃ gq, wv5.heap.size = gq := ⟨_, rfl⟩
     obtain ⟨wv6, hnw⟩ : ∃ wq, wq = wv5.alloc (.cells #[.int .i64 wh, .int .i64 ah] 3 (0, 0)) := ⟨_, rfl⟩
     have HR : Aside0 (Kd.R (Kd.int .i64) 3 wv6 W.heap.size (fun _ => True) (.slice (some ⟨gq, 0, none⟩) 2 2) [wh, ah]) := ⟨by rw [hnw, ← hgq]; exact lit2_R _ _ _ _ (Nat.le_trans HWB.out.size HB.out.size)⟩
     have HG2 := Aside0.mk ((by rw [hnw]; exact blk_alloc HG.out _ : wv6.heap[gp]? = some (.cells #[.slice none 0 0] 28 (0, 0)))); clear HG; have HG := HG2; clear HG2
     have HB2 := Aside0.mk ((by rw [hnw]; exact below_alloc HB.out _ : Below WB.heap.size WB wv6)); clear HB; have HB := HB2; clear HB2
     rw [← hnw, hgq]
     clear hnw hgq
     refine hK.out _ _ (KP.out _ HB.out) ?_
     clear hK K
     try simp only [Act.put, List.getElem_toArray, List.getElem_cons_zero, List.getElem_cons_succ, List.setIfInBounds_toArray, List.set_cons_zero, List.set_cons_succ]
     refine wpL_ready (rs := [11]) (by kernel_rfl) (by simp) (AllL.cons rfl (fun K hK => ?_) AllL.nil)
     have z0 : wv6.cell? ⟨gp, 0, none⟩ = some (.slice none 0 0) := blk_cell HG.out 0
     have z1 := blk_frozen HG.out 0
     go_simp
     refine hK.out _ _ (KP.out _ (HB.out.setCell HGP.out _)) ?_
     clear hK K z0 z1
     try simp only [Act.put, List.getElem_toArray, List.getElem_cons_zero, List.getElem_cons_succ, List.setIfInBounds_toArray, List.set_cons_zero, List.set_cons_succ]
     refine wpL_done (by kernel_rfl) (NoPanic.normal ?_) _
     have HF := Aside0.mk (NxS.start HWB.out HGS.out hgw HB.out HG.out HGP.out HR.out)
     clear HG HR HB HGP
     go_wp2_with fail
     go_meet
     exact ⟨gp, _, by first | rfl | simp, HF⟩
   ·skip
    go_simp
    obtain ⟨gp, hgp⟩ : ∃ gp, wv1.heap.size = gp := ⟨_, rfl⟩
    obtain ⟨wv7, hnw⟩ : ∃ wq, wq = wv1.alloc (.cells #[.slice none 0 0] 28 (0, 0)) := ⟨_, rfl⟩
    have HG : Aside0 (wv7.heap[gp]? = some (.cells #[.slice none 0 0] 28 (0, 0))) := ⟨by rw [hnw, ← hgp]; exact blk_new _ _⟩
    have HGP : Aside0 (WB.heap.size ≤ gp) := ⟨by rw [← hgp]; exact HB.out.size⟩
    have HB2 := Aside0.mk ((by rw [hnw]; exact below_alloc HB.out _ : Below WB.heap.size WB wv7)); clear HB; have HB := HB2; clear HB2
    rw [← hnw, hgp]
    clear hnw hgp
    refine hK.out _ _ (KP.out _ HB.out) ?_
    clear hK K
    try simp only [Act.put, List.getElem_toArray, List.getElem_cons_zero, List.getElem_cons_succ, List.setIfInBounds_toArray, List.set_cons_zero, List.set_cons_succ]
    refine wpL_ready (rs := [8]) (by kernel_rfl) (by simp) (AllL.cons rfl (fun K hK => ?_) AllL.nil)
    go_simp
    refine (HAH.out wv7 (below_step HWB.out HB.out)).mono ?_
    rintro e wv8 ⟨rfl, hb⟩
    have HG2 := Aside0.mk (blk_below HG.out hb); clear HG; have HG := HG2; clear HG2
    have HB2 := Aside0.mk (below_step HB.out hb); clear HB; have HB := HB2; clear HB2
    clear hb
    go_wp2_with fail
    refine hK.out _ _ (KP.out _ HB.out) ?_
    clear hK K
    try simp only [Act.put, List.getElem_toArray, List.getElem_cons_zero, List.getElem_cons_succ, List.setIfInBounds_toArray, List.set_cons_zero, List.set_cons_succ]
    refine wpL_ready (rs := [9]) (by kernel_rfl) (by simp) (AllL.cons rfl (fun K hK => ?_) AllL.nil)
    go_simp
    obtain ⟨gq, hgq⟩ : ∃ gq, wv8.heap.size = gq := ⟨_, rfl⟩
    obtain ⟨wv9, hnw⟩ : ∃ wq, wq = wv8.alloc (.cells #[.int .i64 wh, .int .i64 ah] 3 (0, 0)) := ⟨_, rfl⟩
    have HR : Aside0 (Kd.R (Kd.int .i64) 3 wv9 W.heap.size (fun _ => True) (.slice (some ⟨gq, 0, none⟩) 2 2) [wh, ah]) := ⟨by rw [hnw, ← hgq]; exact lit2_R _ _ _ _ (Nat.le_trans HWB.out.size HB.out.size)⟩
    have HG2 := Aside0.mk ((by rw [hnw]; exact blk_alloc HG.out _ : wv9.heap[gp]? = some (.cells #[.slice none 0 0] 28 (0, 0)))); clear HG; have HG := HG2; clear HG2
    have HB2 := Aside0.mk ((by rw [hnw]; exact below_alloc HB.out _ : Below WB.heap.size WB wv9)); clear HB; have HB := HB2; clear HB2
    rw [← hnw, hgq]
    clear hnw hgq
    refine hK.out _ _ (KP.out _ HB.out) ?_
    clear hK K
    try simp only [Act.put, List.getElem_toArray, List.getElem_cons_zero, List.getElem_cons_succ, List.setIfInBounds_toArray, List.set_cons_zero, List.set_cons_succ]
    refine wpL_ready (rs := [11]) (by kernel_rfl) (by simp) (AllL.cons rfl (fun K hK => ?_) AllL.nil)
    have z0 : wv9.cell? ⟨gp, 0, none⟩ = some (.slice none 0 0) := blk_cell HG.out 0
    have z1 := blk_frozen HG.out 0
    go_simp
    refine hK.out _ _ (KP.out _ (HB.out.setCell HGP.out _)) ?_
    clear hK K z0 z1
    try simp only [Act.put, List.getElem_toArray, List.getElem_cons_zero, List.getElem_cons_succ, List.setIfInBounds_toArray, List.set_cons_zero, List.set_cons_succ]
    refine wpL_done (by kernel_rfl) (NoPanic.normal ?_) _
    have HF := Aside0.mk (NxS.start HWB.out HGS.out hgw HB.out HG.out HGP.out HR.out)
    clear HG HR HB HGP
    go_wp2_with fail
    go_meet
    exact ⟨gp, _, by first | rfl | simp, HF⟩
  ·skip
   go_simp
   obtain ⟨gp, hgp⟩ : ∃ gp, wd.heap.size = gp := ⟨_, rfl⟩
   obtain ⟨wv10, hnw⟩ : ∃ wq, wq = wd.alloc (.cells #[.slice none 0 0] 28 (0, 0)) := ⟨_, rfl⟩
   have HG : Aside0 (wv10.heap[gp]? = some (.cells #[.slice none 0 0] 28 (0, 0))) := ⟨by rw [hnw, ← hgp]; exact blk_new _ _⟩
   have HGP : Aside0 (WB.heap.size ≤ gp) := ⟨by rw [← hgp]; exact HB.out.size⟩
   have HB2 := Aside0.mk ((by rw [hnw]; exact below_alloc HB.out _ : Below WB.heap.size WB wv10)); clear HB; have HB := HB2; clear HB2
   rw [← hnw, hgp]
   clear hnw hgp
   refine hK.out _ _ (KP.out _ HB.out) ?_
   clear hK K
   try simp only [Act.put, List.getElem_toArray, List.getElem_cons_zero, List.getElem_cons_succ, List.setIfInBounds_toArray, List.set_cons_zero, List.set_cons_succ]
   refine wpL_ready (rs := [5]) (by kernel_rfl) (by simp) (AllL.cons rfl (fun K hK => ?_) AllL.nil)
   go_simp
   refine (demand_Whole.calls 1 t.f0 t.f1 t.f2 t.f3 t.f4 t.f5 t.f6 t.f7 t.f8 t.f9 t.f10 wh _ HWH.out).mono ?_
   rintro e wv11 ⟨rfl, hb⟩
   have HG2 := Aside0.mk (blk_below HG.out hb); clear HG; have HG := HG2; clear HG2
   have HB2 := Aside0.mk (below_step HB.out hb); clear HB; have HB := HB2; clear HB2
   clear hb
   go_wp2_with fail
   refine hK.out _ _ (KP.out _ HB.out) ?_
   clear hK K
   try simp only [Act.put, List.getElem_toArray, List.getElem_cons_zero, List.getElem_cons_succ, List.setIfInBounds_toArray, List.set_cons_zero, List.set_cons_succ]
   refine wpL_ready (rs := [8]) (by kernel_rfl) (by simp) (AllL.cons rfl (fun K hK => ?_) AllL.nil)
   go_simp
   refine (HAH.out wv11 (below_step HWB.out HB.out)).mono ?_
   rintro e wv12 ⟨rfl, hb⟩
   have HG2 := Aside0.mk (blk_below HG.out hb); clear HG; have HG := HG2; clear HG2
   have HB2 := Aside0.mk (below_step HB.out hb); clear HB; have HB := HB2; clear HB2
   clear hb
   go_wp2_with fail
   refine hK.out _ _ (KP.out _ HB.out) ?_
   clear hK K
   try simp only [Act.put, List.getElem_toArray, List.getElem_cons_zero, List.getElem_cons_succ, List.setIfInBounds_toArray, List.set_cons_zero, List.set_cons_succ]
   refine wpL_ready (rs := [9]) (by kernel_rfl) (by simp) (AllL.cons rfl (fun K hK => ?_) AllL.nil)
   go_simp
   obtain ⟨gq, hgq⟩ : ∃ gq, wv12.heap.size = gq := ⟨_, rfl⟩
   obtain ⟨wv13, hnw⟩ : ∃ wq, wq = wv12.alloc (.cells #[.int .i64 wh, .int .i64 ah] 3 (0, 0)) := ⟨_, rfl⟩
   have HR : Aside0 (Kd.R (Kd.int .i64) 3 wv13 W.heap.size (fun _ => True) (.slice (some ⟨gq, 0, none⟩) 2 2) [wh, ah]) := ⟨by rw [hnw, ← hgq]; exact lit2_R _ _ _ _ (Nat.le_trans HWB.out.size HB.out.size)⟩
   have HG2 := Aside0.mk ((by rw [hnw]; exact blk_alloc HG.out _ : wv13.heap[gp]? = some (.cells #[.slice none 0 0] 28 (0, 0)))); clear HG; have HG := HG2; clear HG2
   have HB2 := Aside0.mk ((by rw [hnw]; exact below_alloc HB.out _ : Below WB.heap.size WB wv13)); clear HB; have HB := HB2; clear HB2
   rw [← hnw, hgq]
   clear hnw hgq
   refine hK.out _ _ (KP.out _ HB.out) ?_
   clear hK K
   try simp only [Act.put, List.getElem_toArray, List.getElem_cons_zero, List.getElem_cons_succ, List.setIfInBounds_toArray, List.set_cons_zero, List.set_cons_succ]
   refine wpL_ready (rs := [11]) (by kernel_rfl) (by simp) (AllL.cons rfl (fun K hK => ?_) AllL.nil)
   have z0 : wv13.cell? ⟨gp, 0, none⟩ = some (.slice none 0 0) := blk_cell HG.out 0
   have z1 := blk_frozen HG.out 0
   go_simp
   refine hK.out _ _ (KP.out _ (HB.out.setCell HGP.out _)) ?_
   clear hK K z0 z1
   try simp only [Act.put, List.getElem_toArray, List.getElem_cons_zero, List.getElem_cons_succ, List.setIfInBounds_toArray, List.set_cons_zero, List.set_cons_succ]
   refine wpL_done (by kernel_rfl) (NoPanic.normal ?_) _
   have HF := Aside0.mk (NxS.start HWB.out HGS.out hgw HB.out HG.out HGP.out HR.out)
   clear HG HR HB HGP
   go_wp2_with fail
   go_meet
   exact ⟨gp, _, by first | rfl | simp, HF⟩
 case rest =>
  obtain ⟨gp, v1, rfl, HN⟩ := hcut
  clear KP
  go_upto_region 3 with fail
  go_cut [12] (fun v12 wc => v12 = .bool true ∧ ∃ v, Aside0 (NxS W wc gs gp b (some ad) c ts v [wh, ah, mo * (b * de)]))
  case first =>
   refine wp_region_noPanic ?_
   refine wp_region_late [] (fun w' : World => w'.cell? ⟨gs, 0, none⟩ = some (.int .i64 b) ∧ w'.cell? ⟨gs, 1, none⟩ = some (.slice (some ad) ts.length c)) (by kernel_rfl) ?_
   have HNd := Aside0.mk (NxS.below HN.out (below_drew (Below.refl _ _)))
   clear HN
   have HN := HNd
   clear HNd
   have hs0 := KP3.out _ _ _ _ HN.out
   refine wpL_takeT (i := 0) (v := ?v0u) rfl (by kernel_rfl) (by kernel_rfl) (by kernel_rfl) (by kernel_rfl) (fun _ _ _ h => h) (Or.inl ⟨by rfl, ?hy0u⟩) (fun _ => hs0) ?rest0u
   case hy0u => (intro w hSw; (try dsimp only at hSw); go_simp; (first | done | with_reducible rfl))
   try simp only [Act.put, List.getElem_toArray, List.getElem_cons_zero, List.getElem_cons_succ, List.setIfInBounds_toArray, List.set_cons_zero, List.set_cons_succ]
   refine wpL_takeT (i := 1) (v := ?v1u) rfl (by kernel_rfl) (by kernel_rfl) (by kernel_rfl) (by kernel_rfl) (fun _ _ _ h => h) (Or.inl ⟨by rfl, ?hy1u⟩) (fun _ => hs0) ?rest1u
   case hy1u => (intro w hSw; (try dsimp only at hSw); go_simp; (first | done | with_reducible rfl))
   try simp only [Act.put, List.getElem_toArray, List.getElem_cons_zero, List.getElem_cons_succ, List.setIfInBounds_toArray, List.set_cons_zero, List.set_cons_succ]
   refine wpL_takeT (i := 2) (v := ?v2u) rfl (by kernel_rfl) (by kernel_rfl) (by kernel_rfl) (by kernel_rfl) (fun _ _ _ h => h) (Or.inl ⟨by rfl, ?hy2u⟩) (fun _ => hs0) ?rest2u
   case hy2u => (intro w hSw; (try dsimp only at hSw); go_simp; (first | done | with_reducible rfl))
   try simp only [Act.put, List.getElem_toArray, List.getElem_cons_zero, List.getElem_cons_succ, List.setIfInBounds_toArray, List.set_cons_zero, List.set_cons_succ]
   refine wpL_take (i := 3) (v := ?v3u) rfl (by kernel_rfl) (by kernel_rfl) (by kernel_rfl) (by kernel_rfl) (by kernel_rfl) (by kernel_rfl) (fun _ _ _ h => h) (Or.inl ⟨by rfl, ?hy3u⟩) hs0 ?rest3u
   case hy3u => (intro w hSw; (try dsimp only at hSw); (try obtain ⟨h0, h1⟩ := hSw); go_simp; (first | done | with_reducible rfl))
   try simp only [Act.put, List.getElem_toArray, List.getElem_cons_zero, List.getElem_cons_succ, List.setIfInBounds_toArray, List.set_cons_zero, List.set_cons_succ]
   refine wpL_takeT (i := 4) (v := ?v4u) rfl (by kernel_rfl) (by kernel_rfl) (by kernel_rfl) (by kernel_rfl) (fun _ _ _ h => h) (Or.inl ⟨by rfl, ?hy4u⟩) (fun _ => hs0) ?rest4u
   case hy4u => (intro w hSw; (try dsimp only at hSw); go_simp; (first | done | with_reducible rfl))
   try simp only [Act.put, List.getElem_toArray, List.getElem_cons_zero, List.getElem_cons_succ, List.setIfInBounds_toArray, List.set_cons_zero, List.set_cons_succ]
   refine wpL_takeT (i := 6) (v := ?v6u) rfl (by kernel_rfl) (by kernel_rfl) (by kernel_rfl) (by kernel_rfl) (fun _ _ _ h => h) (Or.inl ⟨by rfl, ?hy6u⟩) (fun _ => hs0) ?rest6u
   case hy6u => (intro w hSw; (try dsimp only at hSw); go_simp; (first | done | with_reducible rfl))
   try simp only [Act.put, List.getElem_toArray, List.getElem_cons_zero, List.getElem_cons_succ, List.setIfInBounds_toArray, List.set_cons_zero, List.set_cons_succ]
   refine wpL_take (i := 7) (v := ?v7u) rfl (by kernel_rfl) (by kernel_rfl) (by kernel_rfl) (by kernel_rfl) (by kernel_rfl) (by kernel_rfl) (fun _ _ _ h => h) (Or.inl ⟨by rfl, ?hy7u⟩) hs0 ?rest7u
   case hy7u => (intro w hSw; (try dsimp only at hSw); (try obtain ⟨h0, h1⟩ := hSw); go_simp; (first | done | with_reducible rfl))
   try simp only [Act.put, List.getElem_toArray, List.getElem_cons_zero, List.getElem_cons_succ, List.setIfInBounds_toArray, List.set_cons_zero, List.set_cons_succ]
   refine wpL_take (i := 8) (v := ?v8u) rfl (by kernel_rfl) (by kernel_rfl) (by kernel_rfl) (by kernel_rfl) (by kernel_rfl) (by kernel_rfl) (fun _ _ _ h => h) (Or.inl ⟨by rfl, ?hy8u⟩) hs0 ?rest8u
   case hy8u => (intro w hSw; (try dsimp only at hSw); (try obtain ⟨h0, h1⟩ := hSw); go_simp; (first | done | with_reducible rfl))
   try simp only [Act.put, List.getElem_toArray, List.getElem_cons_zero, List.getElem_cons_succ, List.setIfInBounds_toArray, List.set_cons_zero, List.set_cons_succ]
   refine wpL_takeT (i := 9) (v := ?v9u) rfl (by kernel_rfl) (by kernel_rfl) (by kernel_rfl) (by kernel_rfl) (fun _ _ _ h => h) (Or.inl ⟨by rfl, ?hy9u⟩) (fun _ => hs0) ?rest9u
   case hy9u => (intro w hSw; (try dsimp only at hSw); go_simp; (first | done | with_reducible rfl))
   try simp only [Act.put, List.getElem_toArray, List.getElem_cons_zero, List.getElem_cons_succ, List.setIfInBounds_toArray, List.set_cons_zero, List.set_cons_succ]
   clear hs0
   refine wpL_ready (rs := [5]) (by kernel_rfl) (by simp) (AllL.cons rfl (fun K hK => ?_) AllL.nil)
   go_simp
   refine (burst_Most.calls 1 w b g mo _ HMO.out).mono ?_
   rintro e wv14 ⟨rfl, hd⟩
   have HN2 := Aside0.mk (NxS.below HN.out hd.below); clear HN; have HN := HN2; clear HN2
   clear hd
   go_wp2_with fail
   refine hK.out _ _ (KP3.out _ _ _ _ HN.out) ?_
   clear hK K
   try simp only [Act.put, List.getElem_toArray, List.getElem_cons_zero, List.getElem_cons_succ, List.setIfInBounds_toArray, List.set_cons_zero, List.set_cons_succ]
   refine wpL_ready (rs := [10]) (by kernel_rfl) (by simp) (AllL.cons rfl (fun K hK => ?_) AllL.nil)
   go_simp
   refine (HDE.out _ HN.out.2.2.2.1).mono ?_
   rintro e wv15 ⟨rfl, hb⟩
   have HN2 := Aside0.mk (NxS.below HN.out hb); clear HN; have HN := HN2; clear HN2
   clear hb
   go_wp2_with fail
   refine hK.out _ _ (KP3.out _ _ _ _ HN.out) ?_
   clear hK K
   try simp only [Act.put, List.getElem_toArray, List.getElem_cons_zero, List.getElem_cons_succ, List.setIfInBounds_toArray, List.set_cons_zero, List.set_cons_succ]
   have hs1 := KP3.out _ _ _ _ HN.out
   refine wpL_takeT (i := 11) (v := ?v11s15) rfl (by kernel_rfl) (by kernel_rfl) (by kernel_rfl) (by kernel_rfl) (fun _ _ _ h => h) (Or.inl ⟨by rfl, ?hy11s15⟩) (fun _ => hs1) ?rest11s15
   case hy11s15 => (intro w hSw; (try dsimp only at hSw); go_simp; (first | done | with_reducible rfl))
   try simp only [Act.put, List.getElem_toArray, List.getElem_cons_zero, List.getElem_cons_succ, List.setIfInBounds_toArray, List.set_cons_zero, List.set_cons_succ]
   clear hs1
   refine wpL_ready (rs := [12]) (by kernel_rfl) (by simp) (AllL.cons rfl (fun K hK => ?_) AllL.nil)
   go_simp
   refine (NxS.add HN.out mo (b * de) B1 B2 B3 B4 B5 (by simp)).mono ?_
   rintro e wv16 ⟨rfl, v3, hn⟩
   clear HN
   have HN := Aside0.mk hn
   clear hn
   go_wp2_with fail
   refine hK.out _ _ (KP3.out _ _ _ _ HN.out) ?_
   clear hK K
   try simp only [Act.put, List.getElem_toArray, List.getElem_cons_zero, List.getElem_cons_succ, List.setIfInBounds_toArray, List.set_cons_zero, List.set_cons_succ]
   refine wpL_ready (rs := [13]) (by kernel_rfl) (by simp) (AllL.cons rfl (fun K hK => ?_) AllL.nil)
   go_simp
   refine hK.out _ _ (KP3.out _ _ _ _ HN.out) ?_
   clear hK K
   try simp only [Act.put, List.getElem_toArray, List.getElem_cons_zero, List.getElem_cons_succ, List.setIfInBounds_toArray, List.set_cons_zero, List.set_cons_succ]
   refine wpL_done (by kernel_rfl) (NoPanic.normal ?_) _
   go_wp2_with fail
   go_meet
   exact ⟨by first | rfl | simp, v3, HN⟩
  case rest =>
   obtain ⟨rfl, v2, HN⟩ := hcut
   clear KP3 HAH HDE hmul HWH HMO B1 B2 B3 B4 B5
   have s1 := blk_cell HN.out.1 1
   go_wp2_with fail
   clear s1
   go_loopg [12, 46] ts.length (fun kk v12 v46 wr => ∃ (j : Nat) (v : Value) (ps : List Int), v46 = .int .i64 j ∧ v12 = .bool true ∧ j + kk = ts.length ∧ Aside0 (NxS W wr gs gp b (some ad) c ts v ps) ∧ Aside0 (sumL ps + aboveL t.f10 w (ts.drop j) = nx ∧ (∀ x ∈ ps, 0 ≤ x) ∧ ps.length ≤ 3 + j))
   case atStart =>
    refine ⟨0, v2, _, rfl, rfl, by omega, HN, ⟨by rw [List.drop_zero]; exact HNX.out, ?_, by simp⟩⟩
    intro x hx
    have h6 := HB6.out
    simp at hx
    rcases hx with rfl | rfl | rfl
    ·exact h6.1
    ·exact h6.2.1
    ·exact h6.2.2.1
   case round =>
    clear HN
    obtain ⟨j, v, ps, rfl, rfl, hjk, HN, HS⟩ := hrel
    by_cases hlt : j < ts.length
    ·have hd : decide ((j : Int) < (ts.length : Int)) = true := by simp; omega
     obtain ⟨ad', e, x0, x1, x2, x3, x4, x5, x6, x7, x8, x9, x10⟩ := at_T39 (Kd.C_below HC.out HN.out.2.2.2.1) (j : Int) (by omega) (by omega)
     cases e
     simp only [Int.toNat_natCast] at x0 x1 x2 x3 x4 x5 x6 x7 x8 x9 x10
     obtain ⟨t2, ht2⟩ : ∃ t2, rd_T39 ts (j : Int) = t2 := ⟨_, rfl⟩
     have HTJ : Aside0 (ts[j]? = some t2) := ⟨by rw [← ht2]; simp [rd_T39, List.getD_eq_getElem?_getD, List.getElem?_eq_getElem hlt]⟩
     rw [ht2] at x0 x1 x2 x3 x4 x5 x6 x7 x8 x9 x10
     have q0 : (0 : Int) ≤ j := by omega
     have q1 : (j : Int) < (ts.length : Int) := by omega
     clear ht2
     go_upto_region 7 with fail
     obtain ⟨gt, hgt⟩ : ∃ gt, wr.heap.size = gt := ⟨_, rfl⟩
     obtain ⟨W2, hW2⟩ : ∃ W2, W2 = wr.alloc (.cells #[.string t2.f0, .int .i64 t2.f1, .int .i64 t2.f2, .int .i64 t2.f3, .int .i64 t2.f4, .int .i64 t2.f5, .int .i64 t2.f6, .int .i64 t2.f7, .int .i64 t2.f8, .int .i64 t2.f9, .int .i64 t2.f10] 39 (0, 0)) := ⟨_, rfl⟩
     have HN2 : Aside0 (NxS W W2 gs gp b (some ad) c ts v ps) := ⟨by rw [hW2]; exact NxS.below HN.out (below_alloc (Below.refl _ _) _)⟩
     have HT2 : Aside0 (W2.heap[gt]? = some (.cells (tkC t2) 39 (0, 0))) := ⟨by rw [hW2, ← hgt]; exact blk_new wr _⟩
     rw [← hW2, hgt]
     clear hgt hW2 HN x0 x1 x2 x3 x4 x5 x6 x7 x8 x9 x10
     obtain ⟨ad', e, z0, z1, z2, z3, z4, z5, z6, z7, z8, z9, z10⟩ := at_T39 (Kd.C_below HC.out HN2.out.2.2.2.1) (i : Int) p0 p1
     cases e
     clear z0 z1 z2 z3 z4 z5 z6 z7 z8 z9
     rw [HPT.out] at z10
     simp only [Int.toNat_natCast] at z10
     have s1 := blk_cell HN2.out.1 1
     have y0 : W2.cell? ⟨gt, 0, none⟩ = some (.string t2.f0) := blk_cell HT2.out 0
     have y1 : W2.cell? ⟨gt, 1, none⟩ = some (.int .i64 t2.f1) := blk_cell HT2.out 1
     have y2 : W2.cell? ⟨gt, 2, none⟩ = some (.int .i64 t2.f2) := blk_cell HT2.out 2
     have y3 : W2.cell? ⟨gt, 3, none⟩ = some (.int .i64 t2.f3) := blk_cell HT2.out 3
     have y4 : W2.cell? ⟨gt, 4, none⟩ = some (.int .i64 t2.f4) := blk_cell HT2.out 4
     have y5 : W2.cell? ⟨gt, 5, none⟩ = some (.int .i64 t2.f5) := blk_cell HT2.out 5
     have y6 : W2.cell? ⟨gt, 6, none⟩ = some (.int .i64 t2.f6) := blk_cell HT2.out 6
     have y7 : W2.cell? ⟨gt, 7, none⟩ = some (.int .i64 t2.f7) := blk_cell HT2.out 7
     have y8 : W2.cell? ⟨gt, 8, none⟩ = some (.int .i64 t2.f8) := blk_cell HT2.out 8
     have y9 : W2.cell? ⟨gt, 9, none⟩ = some (.int .i64 t2.f9) := blk_cell HT2.out 9
     have y10 : W2.cell? ⟨gt, 10, none⟩ = some (.int .i64 t2.f10) := blk_cell HT2.out 10
     have hdt2 := HD.out t2 (List.mem_of_getElem? HTJ.out)
     obtain ⟨cw, hcw⟩ : ∃ cw, ceilF w t2.f1 = cw := ⟨_, rfl⟩
     obtain ⟨wt, hwt⟩ : ∃ wt, wholeF t2 = wt := ⟨_, rfl⟩
     have hT1 := hdt2.T1
     have hT2 := hdt2.T2
     have HCE : Aside0 (tick_Ceil.f 1 w t2.f1 = some (cw, true)) := ⟨by rw [ceil_eval hw1 (by omega) (by omega) (by omega), hcw]⟩
     have HWT : Aside0 (demand_Whole.f 1 t2.f0 t2.f1 t2.f2 t2.f3 t2.f4 t2.f5 t2.f6 t2.f7 t2.f8 t2.f9 t2.f10 = some wt) := ⟨by rw [whole_eval hdt2, hwt]⟩
     have hc1 := ceil_pos (show 0 < t2.f1 by omega) hw1
     have hc2 := ceil_le (show 0 < t2.f1 by omega) hw1
     have hwb2 := hdt2.whole
     rw [hcw] at hc1 hc2
     rw [hwt] at hwb2
     have hcp : cw * wt ≤ 1048576 * 1049624576 := Int.mul_le_mul (by omega) hwb2.2 (by omega) (by omega)
     have hcq := Int.mul_nonneg hc1 (show 0 ≤ wt by omega)
     have HST : Aside0 (aboveL t.f10 w (ts.drop j) = (if t2.f10 < t.f10 then cw * wt else 0) + aboveL t.f10 w (ts.drop (j + 1))) := ⟨by
      have h := HTJ.out
      rw [List.getElem?_eq_getElem hlt] at h
      rw [List.drop_eq_getElem_cons hlt, aboveL, Option.some.inj h, hcw, hwt]⟩
     have HPL : Aside0 (ps.length ≤ 1000) := ⟨by have := HS.out.2.2; omega⟩
     have C2 : cw ≤ 1000000000000000000 := by omega
     have C3 : 0 ≤ wt := by omega
     have C4 : wt ≤ 1000000000000000000 := by omega
     have C5 : cw * wt ≤ 1000000000000000000 := by omega
     have HCC := Aside0.mk (And.intro hc1 (And.intro C2 (And.intro C3 (And.intro C4 (And.intro C5 hcq)))))
     clear hdt2 hcw hwt hT1 hT2 hc1 hc2 hwb2 hcp hcq C2 C3 C4 C5
     have HN2n : Aside0 (∀ n, NxS W (W2.drewN n) gs gp b (some ad) c ts v ps) := ⟨fun n => NxS.below HN2.out (pw_below_drewN (Below.refl _ _) n)⟩
     have HT2n : Aside0 (∀ n, (W2.drewN n).heap[gt]? = some (.cells (tkC t2) 39 (0, 0))) := ⟨fun n => blk_below HT2.out (pw_below_drewN (Below.refl _ _) n)⟩
     by_cases h1 : t2.f10 < t.f10
     ·have d1 : decide (t2.f10 < t.f10) = true := decide_eq_true h1
      have HJ := Aside0.mk h1
      clear h1
      go_wp2_with fail
      go_quiet (fail)
      go_wp2_with fail
      refine (tick_Ceil.calls 1 w t2.f1 cw true _ HCE.out).mono ?_
      rintro e w3 ⟨rfl, hd3⟩
      have HN3 := Aside0.mk (NxS.below (HN2n.out _) hd3.below)
      have HT3 := Aside0.mk (blk_below (HT2n.out _) hd3.below)
      clear hd3 HN2 HT2 HN2n HT2n s1 z10 y0 y1 y2 y3 y4 y5 y6 y7 y8 y9 y10
      have y0 : w3.cell? ⟨gt, 0, none⟩ = some (.string t2.f0) := blk_cell HT3.out 0
      have y1 : w3.cell? ⟨gt, 1, none⟩ = some (.int .i64 t2.f1) := blk_cell HT3.out 1
      have y2 : w3.cell? ⟨gt, 2, none⟩ = some (.int .i64 t2.f2) := blk_cell HT3.out 2
      have y3 : w3.cell? ⟨gt, 3, none⟩ = some (.int .i64 t2.f3) := blk_cell HT3.out 3
      have y4 : w3.cell? ⟨gt, 4, none⟩ = some (.int .i64 t2.f4) := blk_cell HT3.out 4
      have y5 : w3.cell? ⟨gt, 5, none⟩ = some (.int .i64 t2.f5) := blk_cell HT3.out 5
      have y6 : w3.cell? ⟨gt, 6, none⟩ = some (.int .i64 t2.f6) := blk_cell HT3.out 6
      have y7 : w3.cell? ⟨gt, 7, none⟩ = some (.int .i64 t2.f7) := blk_cell HT3.out 7
      have y8 : w3.cell? ⟨gt, 8, none⟩ = some (.int .i64 t2.f8) := blk_cell HT3.out 8
      have y9 : w3.cell? ⟨gt, 9, none⟩ = some (.int .i64 t2.f9) := blk_cell HT3.out 9
      have y10 : w3.cell? ⟨gt, 10, none⟩ = some (.int .i64 t2.f10) := blk_cell HT3.out 10
      go_wp2_with fail
      refine (demand_Whole.calls 1 t2.f0 t2.f1 t2.f2 t2.f3 t2.f4 t2.f5 t2.f6 t2.f7 t2.f8 t2.f9 t2.f10 wt _ HWT.out).mono ?_
      rintro e w4 ⟨rfl, hb4⟩
      have HN4 := Aside0.mk (NxS.below HN3.out hb4)
      clear hb4 HN3 HT3 y0 y1 y2 y3 y4 y5 y6 y7 y8 y9 y10
      go_wp2_with fail
      refine (NxS.add HN4.out cw wt HCC.out.1 HCC.out.2.1 HCC.out.2.2.1 HCC.out.2.2.2.1 HCC.out.2.2.2.2.1 HPL.out).mono ?_
      rintro e w5 ⟨rfl, v5, hn5⟩
      have HN5 := Aside0.mk hn5
      clear hn5 HN4
      go_wp2_with fail
      go_roundg (ts.length - (j + 1))
      case measure => omega
      case rel =>
       refine ⟨j + 1, v5, _, by first | rfl | simp, by first | rfl | simp, by omega, HN5, ⟨?_, ?_, ?_⟩⟩
       ·have h1 := HS.out.1
        have h2 := HST.out
        rw [if_pos (by have := HJ.out; omega)] at h2
        rw [sumL_app, sumL, sumL]
        omega
       ·intro x hx
        rcases List.mem_append.1 hx with h | h
        ·exact HS.out.2.1 x h
        ·have e : x = cw * wt := by simpa using h
         rw [e]
         exact HCC.out.2.2.2.2.2
       ·have := HS.out.2.2
        rw [List.length_append, List.length_cons, List.length_nil]
        omega
     ·have d1 : decide (t2.f10 < t.f10) = false := decide_eq_false h1
      have HJ := Aside0.mk h1
      clear h1
      go_wp2_with fail
      go_quiet (fail)
      go_wp2_with fail
      go_roundg (ts.length - (j + 1))
      case measure => omega
      case rel =>
       refine ⟨j + 1, v, ps, by first | rfl | simp, by first | rfl | simp, by omega, ⟨HN2n.out _⟩, ⟨?_, HS.out.2.1, by have := HS.out.2.2; omega⟩⟩
       have h1 := HS.out.1
       have h2 := HST.out
       rw [if_neg (by have := HJ.out; omega)] at h2
       omega
    ·have hd : decide ((j : Int) < (ts.length : Int)) = false := by simp; omega
     obtain ⟨A2, c2, rfl, hc2, hC2⟩ := Kd.R_reads HN.out.2.2.1
     have HC2 := Aside0.mk hC2
     have HCL := Aside0.mk hc2
     have HSM : Aside0 (tick_Sum.f (ps.length + 1) ps = some (nx, true)) := ⟨by
      have h := HS.out.1
      have h6 := HB6.out
      rw [List.drop_of_length_le (by omega), aboveL] at h
      rw [sum_eval ps HS.out.2.1 (by have := HS.out.2.2; omega) (by omega) (ps.length + 1) (by omega), show sumL ps = nx by omega]⟩
     have y0 := blk_cell HN.out.2.1 0
     clear hC2 hc2
     go_wp2_with fail
     refine (tick_Sum.calls (ps.length + 1) A2 c2 ps nx true _ HC2.out HCL.out HSM.out).mono ?_
     rintro e w6 ⟨rfl, hd6⟩
     have HF := Aside0.mk (below_step HN.out.2.2.2.1 hd6.below)
     clear hd6 y0
     go_wp2_with fail
     go_ret2
     exact ⟨rfl, HF.out⟩
theorem fix_Next.calls (a0_0 : Int) (A0_1 : Option Addr) (c0_1 : Nat) (l0_1 : List TK) (a1 : Int) (a2 : Int) (a3 : Int) (r1 : Int) (r2 : Bool) (w : World) (hr0_1 : Kd.C k39 w A0_1 l0_1.length l0_1) (hc0_1 : l0_1.length ≤ c0_1) (h : fix_Next.f a0_0 l0_1 a1 a2 a3 = some (r1, r2)) :
  Calls Tryd.prog 29 #[.agg #[.int .i64 a0_0, .slice A0_1 l0_1.length c0_1], .int .i64 a1, .int .i64 a2, .int .i64 a3] w fun e w' => e = .returned (.tuple #[.int .i64 r1, .bool r2]) ∧ Below w.heap.size w w' := by
 unfold fix_Next.f at h
 split at h
 ·rename_i hh
  obtain ⟨h1, ⟨h2, h3⟩, ⟨h4, h5, h6⟩, ⟨h7, h8⟩, h9, h10⟩ := hh
  obtain ⟨a, rfl⟩ : ∃ a : Nat, a1 = (a : Int) := ⟨a1.toNat, by omega⟩
  have e := Option.some.inj h
  obtain ⟨e1, e2⟩ := Prod.mk.inj e
  rw [← e1, ← e2]
  exact next_ask a0_0 A0_1 c0_1 l0_1 a a2 a3 w hr0_1 hc0_1 h1 (by omega) h6 h2 h3 h7 h8 h9 h10
 ·cases h
end Go.Proofs.YtefenbhcbpfihaaDoor.Q
