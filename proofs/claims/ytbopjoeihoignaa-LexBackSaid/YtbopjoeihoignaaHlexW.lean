-- The answers that the laws of chapter 4 hold against the document first: true.
-- HAND pendulum/pendulumlaw04.awake rounds=0 making=1
-- NEEDS pendulum/lex.Tokens
import Derived.Test.YtbopjoeihoignaaQ0
import Derived.Test.YtbopjoeihoignaaHlex
import Derived.Lib.SlBytesConst
namespace Go.Proofs.Ytbopjoeihoignaa.Q
open Go.RowKit Go.Proofs.YtbopjoeihoignaaW.PrintWords Go.Proofs.YtbopjoeihoignaaW.PrintLast Go.Proofs.YtbopjoeihoignaaW.PrintMore
attribute [local go_sem] max2_int min2_int max_two min_two max_three min_three max_four min_four   -- for this text's walks alone
set_option linter.unusedVariables false
set_option linter.unusedSimpArgs false

theorem C_lit_u8 (W : World) (l : List Int) (hl : l.length ≤ 1000) (cs : Array Value) (fr : Nat × Nat) (hcs : cs = (l.map (Value.int .u8)).toArray) : Kd.C (Kd.int .u8) (W.alloc (.cells cs 5 fr)) (some ⟨W.heap.size, 0, none⟩) l.length l := by
  refine Kd.C_of_reads (d := (0 : Int)) (h1 := fun _ => rfl) ⟨rfl, by omega, fun _ => ⟨_, rfl, fun j hj => ?_⟩⟩
  have hb : (W.alloc (.cells cs 5 fr)).heap[W.heap.size]? = some (.cells cs 5 fr) := blk_new _ _
  have e : (⟨W.heap.size, 0, none⟩ : Addr).add j = ⟨W.heap.size, j, none⟩ := by unfold Addr.add; split <;> simp_all
  rw [e, cell_of_row _ _ _ _ _ _ hb, hcs]
  simp [List.getElem?_eq_getElem hj, List.getD_eq_getElem?_getD]
theorem awake_one : lex_Tokens.f [97, 98, 32, 49, 50] = some ([⟨1, ⟨#[97, 98]⟩, 0, 1, 1⟩, ⟨2, ⟨#[49, 50]⟩, 12, 1, 4⟩, ⟨4, ⟨#[]⟩, 0, 1, 6⟩], 0, 0, 0) := by rfl
theorem awake_two : lex_Tokens.f [97, 10, 32, 66] = some ([], 5, 2, 2) := by rfl
theorem conv_lit2 (w : World) (o : Obj) (C : Array Value) (n c : Nat) : (convert 22 22 (.slice (some ⟨w.heap.size + 1, 0, none⟩) n c)).run Try.prog ((w.alloc o).alloc (.cells C 5)) = .ok (.slice (some ⟨w.heap.size + 1, 0, none⟩) n c) ((w.alloc o).alloc (.cells C 5 (C.size, C.size + 1))) := by
  have h := Lib.run_convert_bytes_const (P := Try.prog) (w.alloc o) 22 5 C n c Try.underlying22 Try.underlying5
  have hs : (w.alloc o).heap.size = w.heap.size + 1 := by simp
  rw [hs] at h
  exact h
theorem C_lit_u8' (w : World) (o : Obj) (l : List Int) (hl : l.length ≤ 1000) (cs : Array Value) (fr : Nat × Nat) (hcs : cs = (l.map (Value.int .u8)).toArray) : Kd.C (Kd.int .u8) ((w.alloc o).alloc (.cells cs 5 fr)) (some ⟨w.heap.size + 1, 0, none⟩) l.length l := by
  have h := C_lit_u8 (w.alloc o) l hl cs fr hcs
  have hs : (w.alloc o).heap.size = w.heap.size + 1 := by simp
  rw [hs] at h
  exact h
theorem addr_add0 (a : Addr) : a.add 0 = a := by unfold Addr.add; split <;> simp_all
def pendulumlaw04_awake.f : Option Bool := some true
set_option maxHeartbeats 2000000 in
set_option maxRecDepth 100000 in
theorem pendulumlaw04_awake.calls (r : Bool) (w : World) (h : pendulumlaw04_awake.f = some r) :
    Calls Try.prog 9 #[] w fun e w' => e = .returned (.bool r) ∧ Below w.heap.size w w' := by
  obtain rfl := (Option.some.inj h).symm
  clear h
  have kc := fun (w : World) (C : Array Value) (n c : Nat) => Lib.run_convert_bytes_const (P := Try.prog) w 22 5 C n c Try.underlying22 Try.underlying5
  go_enter Try.func9, Try.ntmps9
  go_wp2_with fail
  refine (lex_Tokens.calls _ 5 [97, 98, 32, 49, 50] _ _ _ _ _ (C_lit_u8 _ [97, 98, 32, 49, 50] (by decide) _ _ rfl) (by decide) awake_one).mono ?_
  rintro e w1 ⟨v0, rfl, hR, hB⟩
  have kc2 := fun o C n c => conv_lit2 w1 o C n c
  go_wp2_with fail
  refine (lex_Tokens.calls _ 4 [97, 10, 32, 66] _ _ _ _ _ (C_lit_u8' _ _ [97, 10, 32, 66] (by decide) _ _ rfl) (by decide) awake_two).mono ?_
  rintro e w2 ⟨v1, rfl, hR2, hB2⟩
  obtain ⟨A1, d1, rfl, hd1, hC1⟩ := Kd.R_reads hR
  obtain ⟨A2, d2, rfl, hd2, hC2⟩ := Kd.R_reads hR2
  have hbb : Below w1.heap.size w1 w2 := below_step (below_alloc (below_alloc (Below.refl _ _) _) _) hB2
  have hC3 := Kd.C_alloc (Kd.C_below hC1 hbb) (.cells #[.int .i64 5, .int .i64 2, .int .i64 2] 27)
  obtain ⟨ad, e1, x00, x01, x02, x03, x04⟩ := at_T33 hC3 0 (by decide) (by decide)
  cases e1
  obtain ⟨ad', e1, x10, x11, x12, x13, x14⟩ := at_T33 hC3 1 (by decide) (by decide)
  cases e1
  obtain ⟨ad', e1, x20, x21, x22, x23, x24⟩ := at_T33 hC3 2 (by decide) (by decide)
  cases e1
  have HB1 := Aside0.mk hB
  have HB2 := Aside0.mk hbb
  have hbs := blk_alloc (((blk_below (blk_alloc (blk_new w1 (.cells #[.int .i64 0, .int .i64 0, .int .i64 0] 27)) _)) hB2)) (.cells #[.int .i64 5, .int .i64 2, .int .i64 2] 27)
  have s0_ := blk_cell hbs 0
  have s1_ := blk_cell hbs 1
  have s2_ := blk_cell hbs 2
  clear hd1 hd2 hC1 hC2 hC3 hR hR2 hB hB2 hbb hbs
  simp only [rd_T33] at x00 x01 x02 x03 x04 x10 x11 x12 x13 x14 x20 x21 x22 x23 x24
  simp at x00 x01 x02 x03 x04 x10 x11 x12 x13 x14 x20 x21 x22 x23 x24
  rw [addr_add0] at x00 x01 x02 x03 x04
  simp [Addr.add] at x10 x11 x12 x13 x14 x20 x21 x22 x23 x24
  go_wp2_with fail
  go_ret
  exact ⟨rfl, below_alloc (below_step (below_step (below_alloc (Below.refl _ _) _) HB1.out) HB2.out) _⟩
end Go.Proofs.Ytbopjoeihoignaa.Q
