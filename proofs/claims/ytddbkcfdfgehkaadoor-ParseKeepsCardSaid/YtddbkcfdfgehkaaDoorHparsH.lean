-- The answers that the laws of chapter 6 hold against the document first: true.
-- HAND pendulum/pendulumlaw06.awake rounds=0 making=1
-- NEEDS pendulum/lex.Tokens slices.Index[[]string,string]
import Derived.Test.YtddbkcfdfgehkaaDoorM0
import Derived.Test.YtddbkcfdfgehkaaDoorM1
import Derived.Test.YtddbkcfdfgehkaaDoorHparsF
import Derived.Test.YtddbkcfdfgehkaaDoorM14
import Derived.Lib.SlBytesConst
namespace Go.Proofs.YtddbkcfdfgehkaaDoor.Q
open Go.RowKit Go.Proofs.YtddbkcfdfgehkaaDoorW.PrintWords Go.Proofs.YtddbkcfdfgehkaaDoorW.PrintLast Go.Proofs.YtddbkcfdfgehkaaDoorW.PrintMore
attribute [local go_sem] max2_int min2_int max_two min_two max_three min_three max_four min_four   -- for this text's walks alone
set_option linter.unusedVariables false
set_option linter.unusedSimpArgs false

attribute [local go_sem] tok_f0 tok_f1 tok_f2 tok_f3 tok_f4
theorem C_lit_u8 (W : World) (l : List Int) (hl : l.length ≤ 1000) (cs : Array Value) (fr : Nat × Nat) (hcs : cs = (l.map (Value.int .u8)).toArray) : Kd.C (Kd.int .u8) (W.alloc (.cells cs 5 fr)) (some ⟨W.heap.size, 0, none⟩) l.length l := by
 refine Kd.C_of_reads (d := (0 : Int)) (h1 := fun _ => rfl) ⟨rfl, by omega, fun _ => ⟨_, rfl, fun j hj => ?_⟩⟩
 have hb : (W.alloc (.cells cs 5 fr)).heap[W.heap.size]? = some (.cells cs 5 fr) := blk_new _ _
 have e : (⟨W.heap.size, 0, none⟩ : Addr).add j = ⟨W.heap.size, j, none⟩ := by unfold Addr.add; split <;> simp_all
 rw [e, cell_of_row _ _ _ _ _ _ hb, hcs]
 simp [List.getElem?_eq_getElem hj, List.getD_eq_getElem?_getD]
def wantA : TK := ⟨⟨#[97]⟩, 9, 8, 3, 0, 2, 1, 1, 2, 1, 5⟩
theorem awakeA : parseF [98,117,114,115,116,32,50,10,116,97,115,107,32,97,32,57,32,56,32,51,32,114,101,116,114,121,32,48,32,50,32,49,32,49,32,50,32,53] = (2, [wantA], 0, 0, 0) := by kernel_rfl
theorem awakeB : parseF [98,117,114,115,116,32,49] = (0, [], 1, 1, 8) := by kernel_rfl
theorem awakeC : parseF [98,117,114,115,116,32,97] = (0, [], 5, 1, 7) := by kernel_rfl
theorem conv_litM (w : World) (m : Nat) (hm : w.heap.size = m) (C : Array Value) (n c : Nat) : (convert 22 22 (.slice (some ⟨m, 0, none⟩) n c)).run Tryd.prog (w.alloc (.cells C 5)) = .ok (.slice (some ⟨m, 0, none⟩) n c) (w.alloc (.cells C 5 (C.size, C.size + 1))) := by
 have h := Lib.run_convert_bytes_const (P := Tryd.prog) w 22 5 C n c Tryd.underlying22 Tryd.underlying5
 rw [hm] at h
 exact h
theorem C_lit_M (W : World) (m : Nat) (hm : W.heap.size = m) (l : List Int) (hl : l.length ≤ 1000) (cs : Array Value) (fr : Nat × Nat) (hcs : cs = (l.map (Value.int .u8)).toArray) : Kd.C (Kd.int .u8) (W.alloc (.cells cs 5 fr)) (some ⟨m, 0, none⟩) l.length l := by
 have h := C_lit_u8 W l hl cs fr hcs
 rw [hm] at h
 exact h
def pendulumlaw06_awake.f : Option Bool := some true
set_option maxHeartbeats 2000000 in
set_option maxRecDepth 100000 in
theorem pendulumlaw06_awake.calls (r : Bool) (w : World) (h : pendulumlaw06_awake.f = some r) :
  Calls Tryd.prog 9 #[] w fun e w' => e = .returned (.bool r) ∧ Below w.heap.size w w' := by
 obtain rfl := (Option.some.inj h).symm
 clear h
 have kc := fun (w : World) (C : Array Value) (n c : Nat) => Lib.run_convert_bytes_const (P := Tryd.prog) w 22 5 C n c Tryd.underlying22 Tryd.underlying5
 go_enter Tryd.func9, Tryd.ntmps9
 go_wp2_with fail
 refine (parse_Set.calls _ 38 [98,117,114,115,116,32,50,10,116,97,115,107,32,97,32,57,32,56,32,51,32,114,101,116,114,121,32,48,32,50,32,49,32,49,32,50,32,53] _ _ _ _ _ _ (C_lit_u8 _ _ (by decide) _ _ rfl) (by decide) (by unfold parse_Set.f; rw [if_pos (by decide), awakeA])).mono ?_
 rintro e w1 ⟨v0, rfl, hR, hB⟩
 obtain ⟨A1, d1, rfl, hd1, hC1⟩ := Kd.R_reads hR
 have HC1 := Aside0.mk hC1
 have HR1 := Aside0.mk hR
 have HB1 : Aside0 (Below w.heap.size w w1) := ⟨below_step (below_alloc (Below.refl _ _) _) hB⟩
 clear hR hC1 hB
 have kc2 := fun (o1 o2 : Obj) => conv_litM ((w1.alloc o1).alloc o2) (w1.heap.size + 1 + 1) (by simp)
 go_wp2_with fail
 refine (parse_Set.calls _ 7 [98,117,114,115,116,32,49] _ _ _ _ _ _ (C_lit_M _ _ (by simp) _ (by decide) _ _ rfl) (by decide) (by unfold parse_Set.f; rw [if_pos (by decide), awakeB])).mono ?_
 rintro e w2 ⟨v2, rfl, hR, hB⟩
 obtain ⟨A2, d2, rfl, hd2, hC2⟩ := Kd.R_reads hR
 have HB2 : Aside0 (Below w1.heap.size w1 w2) := ⟨below_step (below_alloc (below_alloc (below_alloc (Below.refl _ _) _) _) _) hB⟩
 have HG0 : Aside0 (w2.heap[w1.heap.size]? = some (.cells #[.int .i64 2, .slice A1 1 d1] 26 (0, 0))) := ⟨blk_below (blk_alloc (blk_alloc (blk_new w1 _) _) _) hB⟩
 have HG1 : Aside0 (w2.heap[w1.heap.size + 1]? = some (.cells #[.int .i64 0, .int .i64 0, .int .i64 0] 29 (0, 0))) := ⟨by
  refine blk_below (blk_alloc ?_ _) hB
  have h := blk_new (w1.alloc (.cells #[.int .i64 2, .slice A1 1 d1] 26 (0, 0))) (.cells #[.int .i64 0, .int .i64 0, .int .i64 0] 29 (0, 0))
  simpa using h⟩
 clear hR hC2 hB kc2
 have kc3 := fun (o1 o2 : Obj) => conv_litM ((w2.alloc o1).alloc o2) (w2.heap.size + 1 + 1) (by simp)
 go_wp2_with fail
 refine (parse_Set.calls _ 7 [98,117,114,115,116,32,97] _ _ _ _ _ _ (C_lit_M _ _ (by simp) _ (by decide) _ _ rfl) (by decide) (by unfold parse_Set.f; rw [if_pos (by decide), awakeC])).mono ?_
 rintro e w3 ⟨v3, rfl, hR, hB⟩
 obtain ⟨A3, d3, rfl, hd3, hC3⟩ := Kd.R_reads hR
 have hB3 : Below w2.heap.size w2 w3 := below_step (below_alloc (below_alloc (below_alloc (Below.refl _ _) _) _) _) hB
 have HF1 : Aside0 (w3.heap[w2.heap.size + 1]? = some (.cells #[.int .i64 1, .int .i64 1, .int .i64 8] 29 (0, 0))) := ⟨by
  refine blk_below (blk_alloc ?_ _) hB
  have h := blk_new (w2.alloc (.cells #[.int .i64 0, .slice A2 0 d2] 26 (0, 0))) (.cells #[.int .i64 1, .int .i64 1, .int .i64 8] 29 (0, 0))
  simpa using h⟩
 have HG03 := Aside0.mk (blk_below HG0.out hB3)
 have HG13 := Aside0.mk (blk_below HG1.out hB3)
 have HC3 := Aside0.mk (Kd.C_below HC1.out (below_step HB2.out hB3))
 have HB3 := Aside0.mk hB3
 clear hR hC3 hB kc3 hB3 HG0 HG1 HC1
 go_wp2_with fail
 obtain ⟨wB, hwB⟩ : ∃ wB, wB = ((w3.alloc (.cells #[.int .i64 0, .slice A3 0 d3] 26 (0, 0))).alloc (.cells #[.int .i64 5, .int .i64 1, .int .i64 7] 29 (0, 0))).alloc (.cells #[.string ⟨#[97]⟩, .int .i64 9, .int .i64 8, .int .i64 3, .int .i64 0, .int .i64 2, .int .i64 1, .int .i64 1, .int .i64 2, .int .i64 1, .int .i64 5] 40 (0, 0)) := ⟨_, rfl⟩
 have hbB : Below w3.heap.size w3 wB := by rw [hwB]; exact below_alloc (below_alloc (below_alloc (Below.refl _ _) _) _) _
 have HS0 := blk_below HG03.out hbB
 have HS1 := blk_below HG13.out hbB
 have HS2 := blk_below HF1.out hbB
 have HS3 : wB.heap[w3.heap.size + 1]? = some (.cells #[.int .i64 5, .int .i64 1, .int .i64 7] 29 (0, 0)) := by
  rw [hwB]
  have h := blk_new (w3.alloc (.cells #[.int .i64 0, .slice A3 0 d3] 26 (0, 0))) (.cells #[.int .i64 5, .int .i64 1, .int .i64 7] 29 (0, 0))
  exact blk_alloc (by simpa using h) _
 have HS4 : wB.heap[w3.heap.size + 1 + 1]? = some (.cells #[.string ⟨#[97]⟩, .int .i64 9, .int .i64 8, .int .i64 3, .int .i64 0, .int .i64 2, .int .i64 1, .int .i64 1, .int .i64 2, .int .i64 1, .int .i64 5] 40 (0, 0)) := by
  rw [hwB]
  have h := blk_new ((w3.alloc (.cells #[.int .i64 0, .slice A3 0 d3] 26 (0, 0))).alloc (.cells #[.int .i64 5, .int .i64 1, .int .i64 7] 29 (0, 0))) (.cells #[.string ⟨#[97]⟩, .int .i64 9, .int .i64 8, .int .i64 3, .int .i64 0, .int .i64 2, .int .i64 1, .int .i64 1, .int .i64 2, .int .i64 1, .int .i64 5] 40 (0, 0))
  simpa using h
 obtain ⟨ad, e1, y0, y1, y2, y3, y4, y5, y6, y7, y8, y9, y10⟩ := at_T40 (Kd.C_below HC3.out hbB) 0 (by decide) (by decide)
 cases e1
 obtain ⟨qt, rfl⟩ := Kd.R_head HR1.out
 have HBW : Aside0 (Below w.heap.size w wB) := ⟨below_step (below_step (below_step HB1.out HB2.out) HB3.out) hbB⟩
 rw [← hwB]
 simp only [rd_T40] at y0 y1 y2 y3 y4 y5 y6 y7 y8 y9 y10
 simp [wantA, Addr.add] at y0 y1 y2 y3 y4 y5 y6 y7 y8 y9 y10
 have KEEP : ∀ w' : World, Below wB.heap.size wB w' → (fun w' : World => Below wB.heap.size wB w' ∧ w'.cell? ⟨w1.heap.size, 0, none⟩ = some (.int .i64 2) ∧ w'.cell? ⟨w1.heap.size, 1, none⟩ = some (.slice (some ⟨qt, 0, none⟩) 1 d1) ∧ w'.cell? ⟨w1.heap.size + 1, 0, none⟩ = some (.int .i64 0) ∧ w'.cell? ⟨w1.heap.size + 1, 1, none⟩ = some (.int .i64 0) ∧ w'.cell? ⟨w1.heap.size + 1, 2, none⟩ = some (.int .i64 0) ∧ w'.cell? ⟨w2.heap.size + 1, 0, none⟩ = some (.int .i64 1) ∧ w'.cell? ⟨w2.heap.size + 1, 1, none⟩ = some (.int .i64 1) ∧ w'.cell? ⟨w2.heap.size + 1, 2, none⟩ = some (.int .i64 8) ∧ w'.cell? ⟨w3.heap.size + 1, 0, none⟩ = some (.int .i64 5) ∧ w'.cell? ⟨w3.heap.size + 1, 1, none⟩ = some (.int .i64 1) ∧ w'.cell? ⟨w3.heap.size + 1, 2, none⟩ = some (.int .i64 7) ∧ w'.cell? ⟨w3.heap.size + 1 + 1, 0, none⟩ = some (.string ⟨#[97]⟩) ∧ w'.cell? ⟨w3.heap.size + 1 + 1, 1, none⟩ = some (.int .i64 9) ∧ w'.cell? ⟨w3.heap.size + 1 + 1, 2, none⟩ = some (.int .i64 8) ∧ w'.cell? ⟨w3.heap.size + 1 + 1, 3, none⟩ = some (.int .i64 3) ∧ w'.cell? ⟨w3.heap.size + 1 + 1, 4, none⟩ = some (.int .i64 0) ∧ w'.cell? ⟨w3.heap.size + 1 + 1, 5, none⟩ = some (.int .i64 2) ∧ w'.cell? ⟨w3.heap.size + 1 + 1, 6, none⟩ = some (.int .i64 1) ∧ w'.cell? ⟨w3.heap.size + 1 + 1, 7, none⟩ = some (.int .i64 1) ∧ w'.cell? ⟨w3.heap.size + 1 + 1, 8, none⟩ = some (.int .i64 2) ∧ w'.cell? ⟨w3.heap.size + 1 + 1, 9, none⟩ = some (.int .i64 1) ∧ w'.cell? ⟨w3.heap.size + 1 + 1, 10, none⟩ = some (.int .i64 5) ∧ w'.cell? ⟨qt, 0, none⟩ = some (.string ⟨#[97]⟩) ∧ w'.cell? ⟨qt, 1, none⟩ = some (.int .i64 9) ∧ w'.cell? ⟨qt, 2, none⟩ = some (.int .i64 8) ∧ w'.cell? ⟨qt, 3, none⟩ = some (.int .i64 3) ∧ w'.cell? ⟨qt, 4, none⟩ = some (.int .i64 0) ∧ w'.cell? ⟨qt, 5, none⟩ = some (.int .i64 2) ∧ w'.cell? ⟨qt, 6, none⟩ = some (.int .i64 1) ∧ w'.cell? ⟨qt, 7, none⟩ = some (.int .i64 1) ∧ w'.cell? ⟨qt, 8, none⟩ = some (.int .i64 2) ∧ w'.cell? ⟨qt, 9, none⟩ = some (.int .i64 1) ∧ w'.cell? ⟨qt, 10, none⟩ = some (.int .i64 5)) w' := fun w' hb => ⟨hb, blk_cell (blk_below HS0 hb) 0, blk_cell (blk_below HS0 hb) 1, blk_cell (blk_below HS1 hb) 0, blk_cell (blk_below HS1 hb) 1, blk_cell (blk_below HS1 hb) 2, blk_cell (blk_below HS2 hb) 0, blk_cell (blk_below HS2 hb) 1, blk_cell (blk_below HS2 hb) 2, blk_cell (blk_below HS3 hb) 0, blk_cell (blk_below HS3 hb) 1, blk_cell (blk_below HS3 hb) 2, blk_cell (blk_below HS4 hb) 0, blk_cell (blk_below HS4 hb) 1, blk_cell (blk_below HS4 hb) 2, blk_cell (blk_below HS4 hb) 3, blk_cell (blk_below HS4 hb) 4, blk_cell (blk_below HS4 hb) 5, blk_cell (blk_below HS4 hb) 6, blk_cell (blk_below HS4 hb) 7, blk_cell (blk_below HS4 hb) 8, blk_cell (blk_below HS4 hb) 9, blk_cell (blk_below HS4 hb) 10, pw_cell_below hb y0, pw_cell_below hb y1, pw_cell_below hb y2, pw_cell_below hb y3, pw_cell_below hb y4, pw_cell_below hb y5, pw_cell_below hb y6, pw_cell_below hb y7, pw_cell_below hb y8, pw_cell_below hb y9, pw_cell_below hb y10⟩
 have KP := Aside0.mk KEEP
 clear KEEP HS0 HS1 HS2 HS3 HS4 y0 y1 y2 y3 y4 y5 y6 y7 y8 y9 y10 hwB hbB
 go_region_held3 (fun w' : World => Below wB.heap.size wB w' ∧ w'.cell? ⟨w1.heap.size, 0, none⟩ = some (.int .i64 2) ∧ w'.cell? ⟨w1.heap.size, 1, none⟩ = some (.slice (some ⟨qt, 0, none⟩) 1 d1) ∧ w'.cell? ⟨w1.heap.size + 1, 0, none⟩ = some (.int .i64 0) ∧ w'.cell? ⟨w1.heap.size + 1, 1, none⟩ = some (.int .i64 0) ∧ w'.cell? ⟨w1.heap.size + 1, 2, none⟩ = some (.int .i64 0) ∧ w'.cell? ⟨w2.heap.size + 1, 0, none⟩ = some (.int .i64 1) ∧ w'.cell? ⟨w2.heap.size + 1, 1, none⟩ = some (.int .i64 1) ∧ w'.cell? ⟨w2.heap.size + 1, 2, none⟩ = some (.int .i64 8) ∧ w'.cell? ⟨w3.heap.size + 1, 0, none⟩ = some (.int .i64 5) ∧ w'.cell? ⟨w3.heap.size + 1, 1, none⟩ = some (.int .i64 1) ∧ w'.cell? ⟨w3.heap.size + 1, 2, none⟩ = some (.int .i64 7) ∧ w'.cell? ⟨w3.heap.size + 1 + 1, 0, none⟩ = some (.string ⟨#[97]⟩) ∧ w'.cell? ⟨w3.heap.size + 1 + 1, 1, none⟩ = some (.int .i64 9) ∧ w'.cell? ⟨w3.heap.size + 1 + 1, 2, none⟩ = some (.int .i64 8) ∧ w'.cell? ⟨w3.heap.size + 1 + 1, 3, none⟩ = some (.int .i64 3) ∧ w'.cell? ⟨w3.heap.size + 1 + 1, 4, none⟩ = some (.int .i64 0) ∧ w'.cell? ⟨w3.heap.size + 1 + 1, 5, none⟩ = some (.int .i64 2) ∧ w'.cell? ⟨w3.heap.size + 1 + 1, 6, none⟩ = some (.int .i64 1) ∧ w'.cell? ⟨w3.heap.size + 1 + 1, 7, none⟩ = some (.int .i64 1) ∧ w'.cell? ⟨w3.heap.size + 1 + 1, 8, none⟩ = some (.int .i64 2) ∧ w'.cell? ⟨w3.heap.size + 1 + 1, 9, none⟩ = some (.int .i64 1) ∧ w'.cell? ⟨w3.heap.size + 1 + 1, 10, none⟩ = some (.int .i64 5) ∧ w'.cell? ⟨qt, 0, none⟩ = some (.string ⟨#[97]⟩) ∧ w'.cell? ⟨qt, 1, none⟩ = some (.int .i64 9) ∧ w'.cell? ⟨qt, 2, none⟩ = some (.int .i64 8) ∧ w'.cell? ⟨qt, 3, none⟩ = some (.int .i64 3) ∧ w'.cell? ⟨qt, 4, none⟩ = some (.int .i64 0) ∧ w'.cell? ⟨qt, 5, none⟩ = some (.int .i64 2) ∧ w'.cell? ⟨qt, 6, none⟩ = some (.int .i64 1) ∧ w'.cell? ⟨qt, 7, none⟩ = some (.int .i64 1) ∧ w'.cell? ⟨qt, 8, none⟩ = some (.int .i64 2) ∧ w'.cell? ⟨qt, 9, none⟩ = some (.int .i64 1) ∧ w'.cell? ⟨qt, 10, none⟩ = some (.int .i64 5)) (first | exact KP.out _ (below_drew (Below.refl _ _)) | exact hHeld | assumption | exact KP.out _ (below_step hH.1 hb)) ((go_at_call 14; have hH : Below wB.heap.size wB _ ∧ _ := (by assumption); refine (parse_Mode.calls _ _ _ rfl).mono ?_; rintro e w' ⟨rfl, hb⟩))
 all_goals
  have hH : Below wB.heap.size wB _ ∧ _ := (by assumption)
  have HE := Aside0.mk (below_step HBW.out hH.1)
  clear hH
  go_wp2_with fail
  go_ret
  exact ⟨rfl, HE.out⟩
end Go.Proofs.YtddbkcfdfgehkaaDoor.Q
