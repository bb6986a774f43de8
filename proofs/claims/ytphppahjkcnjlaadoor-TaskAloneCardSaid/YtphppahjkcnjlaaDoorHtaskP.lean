-- A set like another one: walked by hand.
-- HAND pendulum/task.Copy rounds=0 making=1
-- NEEDS pendulum/task.in pendulum/index.Named
import Derived.Test.YtphppahjkcnjlaaDoorQ0
import Derived.Test.YtphppahjkcnjlaaDoorLtask
import Derived.Test.YtphppahjkcnjlaaDoorHtaskA
import Derived.WalkSpells
namespace Go.Proofs.YtphppahjkcnjlaaDoor.Q
open Go.RowKit Go.Proofs.YtphppahjkcnjlaaDoorW.PrintWords Go.Proofs.YtphppahjkcnjlaaDoorW.PrintLast Go.Proofs.YtphppahjkcnjlaaDoorW.PrintMore
attribute [local go_sem] max2_int min2_int max_two min_two max_three min_three max_four min_four   -- for this text's walks alone
set_option linter.unusedVariables false
set_option linter.unusedSimpArgs false

theorem info_task : (Tryd.prog.info? 32).map (fun i => (i.zero, i.size, i.bytes)) = some (some (.agg #[.string ⟨#[]⟩, .int .i64 0, .int .i64 0, .int .i64 0, .int .i64 0, .int .i64 0, .int .i64 0, .int .i64 0, .int .i64 0, .int .i64 0, .int .i64 0]), 11, 96) := by kernel_rfl
set_option maxHeartbeats 1000000 in
set_option maxRecDepth 100000 in
theorem clone_ask (W : World) (A : Option Addr) (c : Nat) (ts : List TK) (hts : Kd.C k32 W A ts.length ts) (hc : ts.length ≤ c) (hlen : ts.length ≤ 1000000) :
    Calls Tryd.prog 26 #[.slice A ts.length c] W fun e w' => ∃ v, e = .returned v ∧ Kd.R k32 32 w' W.heap.size (fun _ => True) v ts ∧ Below W.heap.size W w' := by
  have he := fun w => Lib.run_eql_slice_nil (P := Tryd.prog) w 22 32 A ts.length c 0 0 Tryd.underlying22
  have HC := Aside0.mk hts
  have HB : Aside0 (Below W.heap.size W W) := ⟨Below.refl _ _⟩
  clear hts
  cases A with
  | none =>
    have h0 : ts = [] := by
      rcases Nat.eq_zero_or_pos ts.length with h | h
      · exact List.eq_nil_of_length_eq_zero h
      · obtain ⟨ad, h, _⟩ := HC.out.2.2 h; cases h
    subst h0
    simp only [Option.isNone_none, List.length_nil] at he
    show Calls Tryd.prog 26 #[.slice none 0 c] W _
    go_enter Tryd.func26, Tryd.ntmps26
    go_wp2_with fail
    go_ret
    exact ⟨_, rfl, Kd.R_nil _ _ _ _ _, HB.out⟩
  | some ad =>
    simp only [Option.isNone_some] at he
    go_enter Tryd.func26, Tryd.ntmps26
    go_wp2_with (first
      | ((with_reducible refine gate_dst (N := 5) rfl ?_); refine Kd.R_lit k32 _ 32 ?hg (N := 5) ?hd (xs := ([] : List TK)) (inner := []) (ok := fun _ => True) (okp := fun _ => True) ?hr ?hp (fun _ hk => hk) trivial (Below.refl _ _) (Nat.le_refl _) (by simp) ?_; (case hd => rfl); (case hg => rfl); (case hr => first | (go_simp; done) | (go_simp; rfl)); (case hp => exact (Reps.none _ _)); intro v2 w2 ho hb _ _; have HO2 := Aside0.mk ho; have HBE := Aside0.mk hb; clear ho hb)
      | ((with_reducible refine gate_builtin (b := .append) (xs := #[.tmp 5, .tmp 6]) rfl ?_); at_builtin; refine Kd.R_append_rows k32 (w0 := W) W.heap.size rfl (.tmp 5) (.tmp 6) 22 32 _ 96 rfl Tryd.underlying22 info_task rfl (by decide) (by omega) v2 [] ts _ _ _ (fun _ => True) (fun _ => False) rfl rfl HO2.out (Kd.C_below HC.out HBE.out) (fun _ _ h => h) (fun _ h => h.elim) (fun _ _ => trivial) HBE.out (below_size HBE.out) (by simp; omega) ?_; intro v3 w3 ho hb hg hat; have HBF := Aside0.mk hb; have HO3 := Aside0.mk ho; clear HO2 HBE ho hb hg hat))
    go_ret
    exact ⟨_, rfl, HO3.out, HBF.out⟩
/-- What stands while a set is copied: the argument's box, and the answer's. -/
def CopyS (w : World) (gs : Nat) (b : Int) (A : Option Addr) (n c : Nat) (W : World) : Prop := Below gs w W ∧ W.heap[gs]? = some (.cells #[.int .i64 b, .slice A n c] 24 (0, 0)) ∧ ∃ x y, W.heap[gs + 1]? = some (.cells #[x, y] 24 (0, 0))
theorem CopyS.below {w W W' : World} {gs : Nat} {b : Int} {A : Option Addr} {n c : Nat} (h : CopyS w gs b A n c W) (hg : gs = w.heap.size) (hb : Below W.heap.size W W') : CopyS w gs b A n c W' := by
  obtain ⟨h1, h2, x, y, h3⟩ := h
  exact ⟨by rw [hg] at h1 ⊢; exact below_step h1 hb, blk_below h2 hb, x, y, blk_below h3 hb⟩
theorem CopyS.put {w W : World} {gs : Nat} {b : Int} {A : Option Addr} {n c : Nat} (h : CopyS w gs b A n c W) (u v : Value) : CopyS w gs b A n c ((W.setCell ⟨gs + 1, 0, none⟩ u).setCell ⟨gs + 1, 1, none⟩ v) := by
  obtain ⟨h1, h2, x, y, h3⟩ := h
  refine ⟨(h1.setCell (p := ⟨gs + 1, 0, none⟩) (Nat.le_succ _) u).setCell (p := ⟨gs + 1, 1, none⟩) (Nat.le_succ _) v, ?_, u, v, blk_put (blk_put h3 0 u rfl) 1 v rfl⟩
  rw [Below.heap_setCell _ ⟨gs + 1, 1, none⟩ v gs (by show gs ≠ gs + 1; omega), Below.heap_setCell _ ⟨gs + 1, 0, none⟩ u gs (by show gs ≠ gs + 1; omega)]
  exact h2
theorem CopyS.all {w W : World} {gs : Nat} {b : Int} {A : Option Addr} {n c : Nat} (h : CopyS w gs b A n c W) : CopyS w gs b A n c W ∧ W.cell? ⟨gs, 0, none⟩ = some (.int .i64 b) ∧ W.cell? ⟨gs, 1, none⟩ = some (.slice A n c) := ⟨h, blk_cell h.2.1 0, blk_cell h.2.1 1⟩
theorem CopyS.row {w W w' : World} {gs : Nat} {b : Int} {A : Option Addr} {n c : Nat} {v : Value} {ts : List TK} (h : CopyS w gs b A n c W) (hg : gs = w.heap.size) (hR : Kd.R k32 32 w' W.heap.size (fun _ => True) v ts) : Kd.R k32 32 w' w.heap.size (fun k => k ≠ gs + 1) v ts := by
  obtain ⟨h1, -, x, y, h3⟩ := h
  have hl := blk_lt h3
  refine Kd.R_lower (Kd.R_mono (Kd.R_bound hR) (fun k hk => by omega)) h1.size
theorem CopyS.out {w W : World} {gs : Nat} {b : Int} {A : Option Addr} {n c : Nat} {u v : Value} {ts : List TK} (h : CopyS w gs b A n c W) (hg : gs = w.heap.size) (hR : Kd.R k32 32 W w.heap.size (fun k => k ≠ gs + 1) v ts) :
    ((W.setCell ⟨gs + 1, 0, none⟩ u).setCell ⟨gs + 1, 1, none⟩ v).heap[gs + 1]? = some (.cells #[u, v] 24 (0, 0)) ∧ Kd.R k32 32 ((W.setCell ⟨gs + 1, 0, none⟩ u).setCell ⟨gs + 1, 1, none⟩ v) w.heap.size (fun _ => True) v ts ∧ Below w.heap.size w ((W.setCell ⟨gs + 1, 0, none⟩ u).setCell ⟨gs + 1, 1, none⟩ v) := by
  have hp := h.put u v
  obtain ⟨h1, -, x, y, h3⟩ := h
  refine ⟨blk_put (blk_put h3 0 u rfl) 1 v rfl, Kd.R_mono (Kd.R_far (Kd.R_far hR (p := ⟨gs + 1, 0, none⟩) (fun _ hk => hk) u) (p := ⟨gs + 1, 1, none⟩) (fun _ hk => hk) v) (fun _ _ => trivial), by have := hp.1; rw [hg] at this ⊢; exact this⟩
theorem CopyS.two {w W : World} {gs : Nat} {b : Int} {A : Option Addr} {n c : Nat} (h : CopyS w gs b A n c W) : ∃ x y, W.cell? ⟨gs + 1, 0, none⟩ = some x ∧ W.cell? ⟨gs + 1, 1, none⟩ = some y ∧ W.frozen? ⟨gs + 1, 0, none⟩ = false ∧ W.frozen? ⟨gs + 1, 1, none⟩ = false := by
  obtain ⟨-, -, x, y, h3⟩ := h
  exact ⟨x, y, blk_cell h3 0, blk_cell h3 1, blk_frozen h3 0, blk_frozen h3 1⟩
def task_Copy.f (b : Int) (ts : List TK) : Option (Int × List TK) := if ts.length ≤ 1000000 then some (b, ts) else none
set_option maxHeartbeats 1000000 in
set_option maxRecDepth 100000 in
theorem task_Copy.calls (a0_0 : Int) (A0_1 : Option Addr) (c0_1 : Nat) (l0_1 : List TK) (r1 : Int) (r2 : List TK) (w : World) (hr0_1 : Kd.C k32 w A0_1 l0_1.length l0_1) (hc0_1 : l0_1.length ≤ c0_1) (h : task_Copy.f a0_0 l0_1 = some (r1, r2)) :
    Calls Tryd.prog 18 #[.agg #[.int .i64 a0_0, .slice A0_1 l0_1.length c0_1]] w fun e w' => ∃ v0_ : Value, e = .returned (.agg #[.int .i64 r1, v0_]) ∧ Kd.R k32 32 w' w.heap.size (fun _ => True) v0_ r2 ∧ Below w.heap.size w w' := by
  unfold task_Copy.f at h
  split at h
  case isFalse => exact absurd h (by simp)
  case isTrue hlen =>
  simp only [Option.some.injEq, Prod.mk.injEq] at h
  obtain ⟨rfl, rfl⟩ := h
  have HC := Aside0.mk hr0_1
  have HL := Aside0.mk hlen
  clear hr0_1 hlen
  obtain ⟨W1, hW1⟩ : ∃ W1, W1 = (w.alloc (.cells #[.int .i64 a0_0, .slice A0_1 l0_1.length c0_1] 24 (0, 0))).alloc (.cells #[.int .i64 0, .slice none 0 0] 24 (0, 0)) := ⟨_, rfl⟩
  have HW1 := Aside0.mk hW1
  have HB1 : Aside0 (Below w.heap.size w W1) := ⟨by rw [hW1]; exact below_alloc (below_alloc (Below.refl _ _) _) _⟩
  clear hW1
  go_enter Tryd.func18, Tryd.ntmps18
  go_wp2_with fail
  rw [← HW1.out]
  obtain ⟨gs, hgs⟩ : ∃ gs, w.heap.size = gs := ⟨_, rfl⟩
  have HGS := Aside0.mk hgs
  have HG0 : Aside0 (W1.heap[gs]? = some (.cells #[.int .i64 a0_0, .slice A0_1 l0_1.length c0_1] 24 (0, 0))) := ⟨by rw [HW1.out, ← hgs]; exact blk_alloc (blk_new w _) _⟩
  have HG1 : Aside0 (W1.heap[gs + 1]? = some (.cells #[.int .i64 0, .slice none 0 0] 24 (0, 0))) := ⟨by rw [HW1.out, ← hgs]; have h := blk_new (w.alloc (.cells #[.int .i64 a0_0, .slice A0_1 l0_1.length c0_1] 24 (0, 0))) (.cells #[.int .i64 0, .slice none 0 0] 24 (0, 0)); simpa using h⟩
  have HC1 := Aside0.mk (Kd.C_below HC.out HB1.out)
  rw [hgs]
  clear hgs
  have HS : Aside0 (CopyS w gs a0_0 A0_1 l0_1.length c0_1 W1) := ⟨⟨by rw [← HGS.out]; exact HB1.out, HG0.out, _, _, HG1.out⟩⟩
  have HGL : Aside0 (gs = w.heap.size) := ⟨HGS.out.symm⟩
  go_region_held3 (fun w' : World => CopyS w gs a0_0 A0_1 l0_1.length c0_1 w' ∧ w'.cell? ⟨gs, 0, none⟩ = some (.int .i64 a0_0) ∧ w'.cell? ⟨gs, 1, none⟩ = some (.slice A0_1 l0_1.length c0_1)) (first | exact (HS.out.below HGL.out (below_drew (Below.refl _ _))).all | exact hHeld | assumption | exact (hH.1.below HGL.out hb).all | exact ((hH.1.below HGL.out hb).put _ _).all) ((go_at_call 26; have hH : CopyS w gs a0_0 A0_1 l0_1.length c0_1 _ ∧ _ := (by assumption); refine (clone_ask _ A0_1 c0_1 l0_1 (Kd.C_below HC.out (by rw [HGS.out]; exact hH.1.1)) hc0_1 HL.out).mono ?_; rintro e w' ⟨v, rfl, hR, hb⟩; obtain ⟨Av, cv, hv⟩ := Kd.R_slice hR; subst hv; have HRV := Aside0.mk (hH.1.row HGL.out hR); have HCV := Aside0.mk (hH.1.below HGL.out hb); obtain ⟨xv, yv, zv0, zv1, fv0, fv1⟩ := HCV.out.two))
  go_wp2_with fail
  have hfin := HCV.out.out (u := .int .i64 a0_0) HGL.out HRV.out
  refine bodyPost_ret (results_cell_row rfl _ _ (gs + 1) 24 #[.int .i64 a0_0, .slice Av l0_1.length cv] (0, 0) _ rfl hfin.1 Tryd.underlying24 rfl (by kernel_rfl)) rfl ?_
  exact ⟨_, rfl, hfin.2.1, hfin.2.2⟩
end Go.Proofs.YtphppahjkcnjlaaDoor.Q
