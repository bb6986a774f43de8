-- A set, read: walked by hand.
-- NEEDS pendulum/lex.Tokens slices.Index[[]string,string]
import Derived.Test.YtadfcdpalcgghaaDoorM0
import Derived.Test.YtadfcdpalcgghaaDoorM21
import Derived.Test.YtadfcdpalcgghaaDoorM1
import Derived.Test.YtadfcdpalcgghaaDoorHparsD
import Derived.Test.YtadfcdpalcgghaaDoorHparsE
namespace Go.Proofs.YtadfcdpalcgghaaDoor.Q
open Go.RowKit Go.Proofs.YtadfcdpalcgghaaDoorW.PrintWords Go.Proofs.YtadfcdpalcgghaaDoorW.PrintLast Go.Proofs.YtadfcdpalcgghaaDoorW.PrintMore
attribute [local go_sem] max2_int min2_int max_two min_two max_three min_three max_four min_four   -- for this text's walks alone
set_option linter.unusedVariables false
set_option linter.unusedSimpArgs false

attribute [local go_sem] tok_f0 tok_f1 tok_f2 tok_f3 tok_f4
theorem toksG (f : Nat) : ∀ (s : List Int) (line col : Int) (xs : List TOK), s.length < f → ((toks f s line col xs).2.1 = 0 → Ends (toks f s line col xs).1) ∧ (toks f s line col xs).1.length ≤ xs.length + s.length + 1 ∧ ((toks f s line col xs).2.1 ≠ 0 → (toks f s line col xs).1 = []) := by
 induction f with
 | zero => intro s line col xs h; omega
 | succ f ih =>
  intro s line col xs h
  simp only [toks]
  by_cases hs : s = []
  ·subst hs
   rw [if_pos rfl]
   exact ⟨fun _ => ⟨xs, _, rfl, rfl⟩, by simp, fun h => absurd rfl h⟩
  ·rw [if_neg hs]
   by_cases he : (piece s).1 ≠ 0
   ·rw [if_pos he]
    exact ⟨fun h => absurd h he, by simp, fun _ => rfl⟩
   ·rw [if_neg he]
    have he0 : (piece s).1 = 0 := by omega
    have h1 := piece_pos hs he0
    have h2 := piece_le s
    have h3 : (tokL (piece s).2.2.1 line col).length ≤ 1 := by unfold tokL; split <;> simp
    have h4 := ih (s.drop (piece s).2.1) (if (piece s).2.2.2 = true then line + 1 else line) (if (piece s).2.2.2 = true then 1 else col + (piece s).2.1) (xs ++ tokL (piece s).2.2.1 line col) (by rw [List.length_drop]; omega)
    refine ⟨h4.1, Nat.le_trans h4.2.1 ?_, h4.2.2⟩
    rw [List.length_append, List.length_drop]; omega
theorem lexG (l : List Int) : ((lexToks l).2.1 = 0 → Ends (lexToks l).1) ∧ (lexToks l).1.length ≤ l.length + 1 ∧ ((lexToks l).2.1 ≠ 0 → (lexToks l).1 = []) := by
 have h := toksG (l.length + 1) l 1 1 [] (by omega)
 unfold lexToks
 exact ⟨h.1, by have := h.2.1; simp at this; omega, h.2.2⟩
/-- What parse.Set tells of bytes: burst, tasks, error, line, column. -/
def parseF (l : List Int) : Int × List TK × Int × Int × Int := if (lexToks l).2.1 = 0 then parseToks (lexToks l).1 else (0, [], (lexToks l).2)
theorem set_out {wB : World} {gs : Nat} {a0 a1 b0 b1 b2 : Value} (h0 : wB.heap[gs]? = some (.cells #[a0, a1] 24 (0, 0))) (h1 : wB.heap[gs + 1]? = some (.cells #[b0, b1, b2] 38 (0, 0))) (b v x y z : Value) :
  (((((wB.setCell ⟨gs, 0, none⟩ b).setCell ⟨gs, 1, none⟩ v).setCell ⟨gs + 1, 0, none⟩ x).setCell ⟨gs + 1, 1, none⟩ y).setCell ⟨gs + 1, 2, none⟩ z).heap[gs]? = some (.cells #[b, v] 24 (0, 0)) ∧
  (((((wB.setCell ⟨gs, 0, none⟩ b).setCell ⟨gs, 1, none⟩ v).setCell ⟨gs + 1, 0, none⟩ x).setCell ⟨gs + 1, 1, none⟩ y).setCell ⟨gs + 1, 2, none⟩ z).heap[gs + 1]? = some (.cells #[x, y, z] 38 (0, 0)) := by
 constructor
 ·rw [Below.heap_setCell _ ⟨gs + 1, 2, none⟩ z gs (by show gs ≠ gs + 1; omega), Below.heap_setCell _ ⟨gs + 1, 1, none⟩ y gs (by show gs ≠ gs + 1; omega), Below.heap_setCell _ ⟨gs + 1, 0, none⟩ x gs (by show gs ≠ gs + 1; omega)]
  exact blk_put (blk_put h0 0 b rfl) 1 v rfl
 ·refine spot_puts x y z (a := b0) (b := b1) (c := b2) ?_
  rw [Below.heap_setCell _ ⟨gs, 1, none⟩ v (gs + 1) (by show gs + 1 ≠ gs; omega), Below.heap_setCell _ ⟨gs, 0, none⟩ b (gs + 1) (by show gs + 1 ≠ gs; omega)]
  exact h1
theorem set_below {W wB : World} {n gs : Nat} (h : Below n W wB) (hn : n ≤ gs) (b v x y z : Value) : Below n W (((((wB.setCell ⟨gs, 0, none⟩ b).setCell ⟨gs, 1, none⟩ v).setCell ⟨gs + 1, 0, none⟩ x).setCell ⟨gs + 1, 1, none⟩ y).setCell ⟨gs + 1, 2, none⟩ z) :=
 ((((h.setCell (p := ⟨gs, 0, none⟩) hn b).setCell (p := ⟨gs, 1, none⟩) hn v).setCell (p := ⟨gs + 1, 0, none⟩) (Nat.le_succ_of_le hn) x).setCell (p := ⟨gs + 1, 1, none⟩) (Nat.le_succ_of_le hn) y).setCell (p := ⟨gs + 1, 2, none⟩) (Nat.le_succ_of_le hn) z
theorem set_rows {wB : World} {n gs : Nat} {v : Value} {ts : List TK} (h : Kd.R k26 26 wB n (fun k => k ≠ gs ∧ k ≠ gs + 1) v ts) (b u x y z : Value) : Kd.R k26 26 (((((wB.setCell ⟨gs, 0, none⟩ b).setCell ⟨gs, 1, none⟩ u).setCell ⟨gs + 1, 0, none⟩ x).setCell ⟨gs + 1, 1, none⟩ y).setCell ⟨gs + 1, 2, none⟩ z) n (fun _ => True) v ts :=
 Kd.R_mono (Kd.R_far (Kd.R_far (Kd.R_far (Kd.R_far (Kd.R_far h (p := ⟨gs, 0, none⟩) (fun _ hk => hk.1) b) (p := ⟨gs, 1, none⟩) (fun _ hk => hk.1) u) (p := ⟨gs + 1, 0, none⟩) (fun _ hk => hk.2) x) (p := ⟨gs + 1, 1, none⟩) (fun _ hk => hk.2) y) (p := ⟨gs + 1, 2, none⟩) (fun _ hk => hk.2) z) (fun _ _ => trivial)
set_option maxHeartbeats 4000000 in
set_option maxRecDepth 100000 in
theorem set_ask (A0 : Option Addr) (c0 : Nat) (l0 : List Int) (W : World) (hr0 : Kd.C (Kd.int .u8) W A0 l0.length l0) (hc0 : l0.length ≤ c0) (hok : okBytes l0 = true) (hlen : l0.length ≤ 100000) :
  Calls Tryd.prog 17 #[.slice A0 l0.length c0] W fun e W' => ∃ vt, e = .returned (.tuple #[.agg #[.int .i64 (parseF l0).1, vt], .agg #[.int .i64 (parseF l0).2.2.1, .int .i64 (parseF l0).2.2.2.1, .int .i64 (parseF l0).2.2.2.2]]) ∧ Kd.R k26 26 W' W.heap.size (fun _ => True) vt (parseF l0).2.1 ∧ Below W.heap.size W W' := by
 have HR0 := Aside0.mk hr0
 have HOK := Aside0.mk hok
 clear hr0 hok
 obtain ⟨W1, hW1⟩ : ∃ W1, W1 = (W.alloc (.cells #[.int .i64 0, .slice none 0 0] 24 (0, 0))).alloc (.cells #[.int .i64 0, .int .i64 0, .int .i64 0] 38 (0, 0)) := ⟨_, rfl⟩
 have HW1 := Aside0.mk hW1
 clear hW1
 go_enter Tryd.func17, Tryd.ntmps17
 go_wp2_with fail
 rw [← HW1.out]
 have hb1 : Below W.heap.size W W1 := by rw [HW1.out]; exact below_alloc (below_alloc (Below.refl _ _) _) _
 have HB1 := Aside0.mk hb1
 have HR1 := Aside0.mk (Kd.C_below HR0.out hb1)
 have HG0 : Aside0 (W1.heap[W.heap.size]? = some (.cells #[.int .i64 0, .slice none 0 0] 24 (0, 0))) := ⟨by rw [HW1.out]; exact blk_alloc (blk_new W _) _⟩
 have HG1 : Aside0 (W1.heap[W.heap.size + 1]? = some (.cells #[.int .i64 0, .int .i64 0, .int .i64 0] 38 (0, 0))) := ⟨by rw [HW1.out]; have h := blk_new (W.alloc (.cells #[.int .i64 0, .slice none 0 0] 24 (0, 0))) (.cells #[.int .i64 0, .int .i64 0, .int .i64 0] 38 (0, 0)); simpa using h⟩
 clear hb1 HR0
 obtain ⟨gs, hgs⟩ : ∃ gs, W.heap.size = gs := ⟨_, rfl⟩
 have HGS := Aside0.mk hgs
 rw [hgs] at HG0 HG1
 have hlx := lexG l0
 obtain ⟨T, hT⟩ : ∃ T, lexToks l0 = T := ⟨_, rfl⟩
 have HT := Aside0.mk hT
 rw [hT] at hlx
 have HLX := Aside0.mk hlx
 have HF : Aside0 (lex_Tokens.f l0 = some (T.1, T.2.1, T.2.2.1, T.2.2.2)) := ⟨by unfold lex_Tokens.f; rw [if_pos ⟨HOK.out, by omega⟩, hT]⟩
 clear hlx hT
 try rw [hgs]
 clear hgs
 refine (lex_Tokens.calls A0 c0 l0 _ _ _ _ W1 HR1.out hc0 HF.out).mono ?_
 rintro e wA ⟨v0, rfl, hR, hb⟩
 have HG0A := Aside0.mk (blk_below HG0.out hb)
 have HG1A := Aside0.mk (blk_below HG1.out hb)
 have HBA := Aside0.mk (below_step HB1.out hb)
 have HRA := Aside0.mk hR
 clear hR hb HG0 HG1
 obtain ⟨A1, c1, hv1, lc1, C1⟩ := Kd.R_reads HRA.out
 subst hv1
 have HC1 := Aside0.mk C1
 clear C1 HRA
 by_cases he : T.2.1 = 0
 ·have he0 : (T.2.1 == 0) = true := beq_iff_eq.2 he
  have he1 : (T.2.1 != 0) = false := by rw [he]; rfl
  have HE := Aside0.mk he
  clear he
  have x0 : ∀ v0 v1 v2 : Value, (wA.alloc (.cells #[v0, v1, v2] 38 (0, 0))).cell? ⟨wA.heap.size, 0, none⟩ = some v0 := fun v0 v1 v2 => blk_cell (blk_new wA _) 0
  go_wp2_with fail
  obtain ⟨w0, hw0⟩ : ∃ w0, w0 = wA.alloc (.cells #[.int .i64 T.2.1, .int .i64 T.2.2.1, .int .i64 T.2.2.2] 38 (0, 0)) := ⟨_, rfl⟩
  have hsz : w0.heap.size = wA.heap.size + 1 := by rw [hw0]; simp
  rw [← hw0, ← hsz]
  have HBW : Aside0 (Below W.heap.size W w0) := ⟨by rw [hw0]; exact below_alloc HBA.out _⟩
  have HG0B : Aside0 (w0.heap[gs]? = some (.cells #[.int .i64 0, .slice none 0 0] 24 (0, 0))) := ⟨by rw [hw0]; exact blk_alloc HG0A.out _⟩
  have HG1B : Aside0 (w0.heap[gs + 1]? = some (.cells #[.int .i64 0, .int .i64 0, .int .i64 0] 38 (0, 0))) := ⟨by rw [hw0]; exact blk_alloc HG1A.out _⟩
  have HC2 : Aside0 (Kd.C k61 w0 A1 T.1.length T.1) := ⟨Kd.C_below HC1.out (by rw [hw0]; exact below_alloc (Below.refl _ _) _)⟩
  have HX : Aside0 (PrsX w0 (fun _ => True) (w0.alloc (.cells (prsC A1 c1 (.slice none 0 0) (.slice none 0 0) (PS.init T.1)) 63 (0, 0))) w0.heap.size A1 c1 (.slice none 0 0) (.slice none 0 0) (PS.init T.1)) := ⟨⟨blk_new _ _, Nat.le_refl _, lc1, HC2.out, Kd.R_nil _ _ _ _ _, Kd.R_nil _ _ _ _ _, below_alloc (Below.refl _ _) _⟩⟩
  have HL : Aside0 (Ends (PS.init T.1).l) := ⟨HLX.out.1 HE.out⟩
  obtain ⟨g, hg⟩ : ∃ g, w0.heap.size = g := ⟨_, rfl⟩
  have hgl : gs + 1 < g := by rw [← hg]; exact blk_lt HG1B.out
  have HG := Aside0.mk hg
  rw [hg] at HX ⊢
  clear hsz hw0 hg x0
  refine (blank_ask HX.out HL.out).mono ?_
  rintro e wB ⟨rfl, hX, hl, -⟩
  obtain ⟨A2, c2, hX⟩ := hX
  have HXB := Aside0.mk hX
  have HLB := Aside0.mk hl
  clear hX hl HX
  go_wp2_with fail
  refine (first_ask HXB.out HLB.out).mono ?_
  rintro e wC ⟨rfl, hX, hl, -⟩
  obtain ⟨A3, c3, hX⟩ := hX
  have HXC := Aside0.mk hX
  have HLC := Aside0.mk hl
  clear hX hl HXB
  go_wp2_with fail
  refine (blank_ask HXC.out HLC.out).mono ?_
  rintro e wD ⟨rfl, hX, hl, -⟩
  obtain ⟨A4, c4, hX⟩ := hX
  obtain ⟨q0, hq0⟩ : ∃ q0, (PS.init T.1).blank.first.blank = q0 := ⟨_, rfl⟩
  have hql : q0.l.length ≤ T.1.length := by rw [← hq0]; exact Nat.le_trans (blank_len _) (Nat.le_trans (first_len _) (blank_len _))
  have hqh : q0.hs.length = 0 ∧ q0.ts.length = 0 := by
   have h := first_hs (PS.init T.1).blank
   have h1 : q0.hs = [] := by rw [← hq0]; exact h.1
   have h2 : q0.ts = [] := by rw [← hq0]; exact h.2
   rw [h1, h2]; exact ⟨rfl, rfl⟩
  rw [hq0] at hX hl
  have HXD := Aside0.mk hX
  have HLD := Aside0.mk hl
  have HQ0 := Aside0.mk hq0
  have HQL := Aside0.mk hql
  have HQH := Aside0.mk hqh
  clear hX hl HXC hq0 hql hqh
  obtain ⟨F, hF⟩ : ∃ F, PS.go T.1.length q0 = F := ⟨_, rfl⟩
  have HFF := Aside0.mk hF
  have HTL : Aside0 (T.1.length ≤ 100001) := ⟨by have := HLX.out.2.1; omega⟩
  have HPF : Aside0 (parseF l0 = (if (if F.e = 0 then F.wrong else (F.e, F.ln, F.cl)).1 = 0 then (F.b, F.ts, 0, 0, 0) else (0, [], if F.e = 0 then F.wrong else (F.e, F.ln, F.cl)))) := ⟨by
   unfold parseF
   rw [HT.out, if_pos HE.out]
   unfold parseToks
   rw [HQ0.out, hF]⟩
  clear hF
  go_wp2_with fail
  go_loopg [] T.1.length (fun kk wr => ∃ (A5 : Option Addr) (c5 : Nat) (vts vhs : Value) (q : PS), Aside0 (PrsX w0 (fun _ => True) wr g A5 c5 vts vhs q) ∧ Aside0 (Ends q.l) ∧ Aside0 (PS.go kk q = F) ∧ Aside0 (q.e = 0 → q.l.length ≤ kk ∧ q.hs.length + q.l.length ≤ 100001) ∧ Aside0 (q.hs.length = q.ts.length))
  case atStart => exact ⟨A4, c4, _, _, q0, HXD, HLD, HFF, ⟨fun _ => ⟨HQL.out, by have := HQH.out.1; have := HQL.out; have := HTL.out; omega⟩⟩, ⟨by rw [HQH.out.1, HQH.out.2]⟩⟩
  case round =>
   clear HXD HLD HFF HQL HQH
   obtain ⟨A5, c5, vts, vhs, q, HX, HL, HFF, HK, HH⟩ := hrel
   by_cases hqe : q.e = 0
   ·have x1 : wr.cell? ⟨g, 1, none⟩ = some (.int .i64 q.e) := blk_cell HX.out.1 1
    cases gk with
    | zero => exact absurd (HK.out hqe).1 (by have := List.length_pos_iff.2 HL.out.ne; omega)
    | succ k1 =>
    rw [hqe] at x1
    have HQE := Aside0.mk hqe
    clear hqe
    go_wp2_with fail
    refine (now_ask HX.out HL.out.ne).mono ?_
    rintro e wE ⟨rfl, hb⟩
    have HXE := Aside0.mk (HX.out.below hb)
    clear hb HX x1
    have HX := HXE
    clear HXE
    unfold tokC
    by_cases h4 : q.now.f0 = 4
    ·have h4b : (q.now.f0 == 4) = true := beq_iff_eq.2 h4
     have h4c : (q.now.f0 != 4) = false := by rw [h4]; rfl
     have hFq : F = q := by rw [← HFF.out]; exact go_done _ _ (fun h => h.2 h4)
     subst hFq
     clear h4
     have x1 : wE.cell? ⟨g, 1, none⟩ = some (.int .i64 0) := (blk_cell HX.out.1 1).trans (by rw [← HQE.out]; rfl)
     go_wp2_with fail
     refine (wrong_ask HX.out HL.out HH.out).mono ?_
     rintro e wF ⟨rfl, hb⟩
     have HXF := Aside0.mk (HX.out.below hb)
     clear hb HX x1
     obtain ⟨wy, hwy⟩ : ∃ wy, F.wrong = wy := ⟨_, rfl⟩
     have hpf := HPF.out
     rw [if_pos HQE.out, hwy] at hpf
     have HPG := Aside0.mk hpf
     rw [hwy]
     clear hpf hwy HPF
     have q1 := blk_frozen HXF.out.1 1
     have q2 := blk_frozen HXF.out.1 2
     have q3 := blk_frozen HXF.out.1 3
     have p1 : wF.cell? ⟨g, 1, none⟩ = some (.int .i64 F.e) := blk_cell HXF.out.1 1
     have p2 : wF.cell? ⟨g, 2, none⟩ = some (.int .i64 F.ln) := blk_cell HXF.out.1 2
     have p3 : wF.cell? ⟨g, 3, none⟩ = some (.int .i64 F.cl) := blk_cell HXF.out.1 3
     have HXG : Aside0 (PrsX w0 (fun _ => True) (((wF.setCell ⟨g, 1, none⟩ (.int .i64 wy.1)).setCell ⟨g, 2, none⟩ (.int .i64 wy.2.1)).setCell ⟨g, 3, none⟩ (.int .i64 wy.2.2)) g A5 c5 vts vhs { F with e := wy.1, ln := wy.2.1, cl := wy.2.2 }) := ⟨((HXF.out.put 1 (.int .i64 wy.1) (A' := A5) (c' := c5) (p' := { F with e := wy.1 }) rfl HXF.out.2.2.1 HXF.out.2.2.2.1 rfl rfl).put 2 (.int .i64 wy.2.1) (A' := A5) (c' := c5) (p' := { F with e := wy.1, ln := wy.2.1 }) rfl HXF.out.2.2.1 HXF.out.2.2.2.1 rfl rfl).put 3 (.int .i64 wy.2.2) (A' := A5) (c' := c5) (p' := { F with e := wy.1, ln := wy.2.1, cl := wy.2.2 }) rfl HXF.out.2.2.1 HXF.out.2.2.2.1 rfl rfl⟩
     by_cases hw : wy.1 = 0
     ·have hw0 : (wy.1 == 0) = true := beq_iff_eq.2 hw
      have hw1 : (wy.1 != 0) = false := by rw [hw]; rfl
      have HW := Aside0.mk hw
      clear hw
      obtain ⟨Av, nv, cv, hvv⟩ : ∃ A n c, vts = Value.slice A n c := by obtain ⟨A, c, h⟩ := Kd.R_slice HXF.out.2.2.2.2.1; exact ⟨_, _, _, h⟩
      subst hvv
      have p4 : wF.cell? ⟨g, 4, none⟩ = some (.int .i64 F.b) := blk_cell HXF.out.1 4
      have p5 : wF.cell? ⟨g, 5, none⟩ = some (.slice Av nv cv) := blk_cell HXF.out.1 5
      have HG0F := Aside0.mk (blk_below HG0B.out HXF.out.out_below)
      have HG1F := Aside0.mk (blk_below HG1B.out HXF.out.out_below)
      have HG0H := Aside0.mk (blk_below HG0B.out HXG.out.out_below)
      have HG1H := Aside0.mk (blk_below HG1B.out HXG.out.out_below)
      have HBF := Aside0.mk (below_step HBW.out HXG.out.out_below)
      have f0 : wF.frozen? ⟨gs, 0, none⟩ = false := blk_frozen HG0F.out 0
      have f1 : wF.frozen? ⟨gs, 1, none⟩ = false := blk_frozen HG0F.out 1
      have z0 : wF.cell? ⟨gs, 0, none⟩ = some (.int .i64 0) := blk_cell HG0F.out 0
      have z1 : wF.cell? ⟨gs, 1, none⟩ = some (.slice none 0 0) := blk_cell HG0F.out 1
      have g0 : wF.frozen? ⟨gs + 1, 0, none⟩ = false := blk_frozen HG1F.out 0
      have g1 : wF.frozen? ⟨gs + 1, 1, none⟩ = false := blk_frozen HG1F.out 1
      have g2 : wF.frozen? ⟨gs + 1, 2, none⟩ = false := blk_frozen HG1F.out 2
      have v0 : wF.cell? ⟨gs + 1, 0, none⟩ = some (.int .i64 0) := blk_cell HG1F.out 0
      have v1 : wF.cell? ⟨gs + 1, 1, none⟩ = some (.int .i64 0) := blk_cell HG1F.out 1
      have v2 : wF.cell? ⟨gs + 1, 2, none⟩ = some (.int .i64 0) := blk_cell HG1F.out 2
      have n1 : g ≠ gs := by omega
      have n2 : g ≠ gs + 1 := by omega
      have n3 : gs + 1 ≠ gs := by omega
      have n4 : gs ≠ g := by omega
      have n5 : gs + 1 ≠ g := by omega
      have n6 : gs ≠ gs + 1 := by omega
      go_wp2_with fail
      have hso := set_out HG0H.out HG1H.out (.int .i64 F.b) (.slice Av nv cv) (.int .i64 0) (.int .i64 0) (.int .i64 0)
      refine bodyPost_ret (results_cc rfl _ _ gs (gs + 1) _ _ #[.int .i64 F.b, .slice Av nv cv] #[.int .i64 0, .int .i64 0, .int .i64 0] (0, 0) (0, 0) _ _ rfl hso.1 Tryd.underlying24 rfl (by kernel_rfl) rfl hso.2 Tryd.underlying38 rfl (by kernel_rfl)) rfl ?_
      rw [HPG.out, if_pos HW.out]
      refine ⟨_, rfl, Kd.R_lower (set_rows (Kd.R_mono (Kd.R_bound HXG.out.2.2.2.2.1) (fun k hk => ?_)) _ _ _ _ _) HBW.out.size, set_below HBF.out (by rw [HGS.out]; exact Nat.le_refl _) _ _ _ _ _⟩
      have h1 := hk.2.1
      have h2 := HG.out
      omega
     ·have hw0 : (wy.1 == 0) = false := beq_eq_false_iff_ne.2 hw
      have hw1 : (wy.1 != 0) = true := bne_iff_ne.2 hw
      have HW := Aside0.mk hw
      clear hw
      go_wp2_with fail
      obtain ⟨wH, hwH⟩ : ∃ wH, wH = ((wF.setCell ⟨g, 1, none⟩ (.int .i64 wy.1)).setCell ⟨g, 2, none⟩ (.int .i64 wy.2.1)).setCell ⟨g, 3, none⟩ (.int .i64 wy.2.2) := ⟨_, rfl⟩
      rw [← hwH] at HXG
      have HG0F := Aside0.mk (blk_below HG0B.out HXG.out.out_below)
      have HG1F := Aside0.mk (blk_below HG1B.out HXG.out.out_below)
      have HBF : Aside0 (Below W.heap.size W wH) := ⟨below_step HBW.out HXG.out.out_below⟩
      have x1 : wH.cell? ⟨g, 1, none⟩ = some (.int .i64 wy.1) := blk_cell HXG.out.1 1
      have x2 : wH.cell? ⟨g, 2, none⟩ = some (.int .i64 wy.2.1) := blk_cell HXG.out.1 2
      have x3 : wH.cell? ⟨g, 3, none⟩ = some (.int .i64 wy.2.2) := blk_cell HXG.out.1 3
      have x4 : wH.cell? ⟨g, 4, none⟩ = some (.int .i64 F.b) := blk_cell HXG.out.1 4
      have x5 : wH.cell? ⟨g, 5, none⟩ = some vts := blk_cell HXG.out.1 5
      have f0 : wH.frozen? ⟨gs, 0, none⟩ = false := blk_frozen HG0F.out 0
      have f1 : wH.frozen? ⟨gs, 1, none⟩ = false := blk_frozen HG0F.out 1
      have z0 : wH.cell? ⟨gs, 0, none⟩ = some (.int .i64 0) := blk_cell HG0F.out 0
      have z1 : wH.cell? ⟨gs, 1, none⟩ = some (.slice none 0 0) := blk_cell HG0F.out 1
      have g0 : wH.frozen? ⟨gs + 1, 0, none⟩ = false := blk_frozen HG1F.out 0
      have g1 : wH.frozen? ⟨gs + 1, 1, none⟩ = false := blk_frozen HG1F.out 1
      have g2 : wH.frozen? ⟨gs + 1, 2, none⟩ = false := blk_frozen HG1F.out 2
      have v0 : wH.cell? ⟨gs + 1, 0, none⟩ = some (.int .i64 0) := blk_cell HG1F.out 0
      have v1 : wH.cell? ⟨gs + 1, 1, none⟩ = some (.int .i64 0) := blk_cell HG1F.out 1
      have v2 : wH.cell? ⟨gs + 1, 2, none⟩ = some (.int .i64 0) := blk_cell HG1F.out 2
      have n1 : g ≠ gs := by omega
      have n2 : g ≠ gs + 1 := by omega
      have n3 : gs + 1 ≠ gs := by omega
      rw [← hwH]
      clear hwH p1 p2 p3 q1 q2 q3 x4 x5
      go_region
      go_wp2
      have hso := set_out HG0F.out HG1F.out (.int .i64 0) (.slice none 0 0) (.int .i64 wy.1) (.int .i64 wy.2.1) (.int .i64 wy.2.2)
      refine bodyPost_ret (results_cc rfl _ _ gs (gs + 1) _ _ #[.int .i64 0, .slice none 0 0] #[.int .i64 wy.1, .int .i64 wy.2.1, .int .i64 wy.2.2] (0, 0) (0, 0) _ _ rfl hso.1 Tryd.underlying24 rfl (by kernel_rfl) rfl hso.2 Tryd.underlying38 rfl (by kernel_rfl)) rfl ?_
      rw [HPG.out, if_neg HW.out]
      exact ⟨_, rfl, Kd.R_nil _ _ _ _ _, below_drew (set_below HBF.out (by rw [HGS.out]; exact Nat.le_refl _) _ _ _ _ _)⟩
    ·have h4b : (q.now.f0 == 4) = false := beq_eq_false_iff_ne.2 h4
     have h4c : (q.now.f0 != 4) = true := bne_iff_ne.2 h4
     have hgo := HFF.out
     rw [PS.go, if_pos ⟨HQE.out, h4⟩] at hgo
     have HGO := Aside0.mk hgo
     have hkk := HK.out HQE.out
     have HKK := Aside0.mk hkk
     have hlen2 : q.hs.length ≤ 1000000 := by omega
     have hlen3 : q.ts.length ≤ 1000000 := by rw [← HH.out]; omega
     have HL2 := Aside0.mk hlen2
     have HL3 := Aside0.mk hlen3
     clear h4 hgo hkk HFF hlen2 hlen3
     go_wp2_with fail
     refine (one_ask HX.out HL.out HL2.out HL3.out).mono ?_
     rintro e wF ⟨rfl, hX, hl⟩
     obtain ⟨A6, c6, vts2, vhs2, hX⟩ := hX
     have HXF := Aside0.mk hX
     have HLF := Aside0.mk hl
     clear hX hl HX
     go_wp2_with fail
     refine (blank_ask HXF.out HLF.out).mono ?_
     rintro e wG ⟨rfl, hX, hl, -⟩
     obtain ⟨A7, c7, hX⟩ := hX
     have HXG := Aside0.mk hX
     have HLG := Aside0.mk hl
     clear hX hl HXF
     go_wp2_with fail
     go_roundg k1
     case measure => omega
     case rel =>
      refine ⟨A7, c7, vts2, vhs2, q.one.blank, HXG, HLG, HGO, ⟨fun h => ?_⟩, ⟨?_⟩⟩
      ·have h1 := one_len q HL.out.ne h
       have h2 := blank_len q.one
       have h3 := (one_hs q).1
       have h4 := HKK.out
       show q.one.blank.l.length ≤ k1 ∧ q.one.hs.length + q.one.blank.l.length ≤ 100001
       omega
      ·show q.one.hs.length = q.one.ts.length
       rw [(one_hs q).1, (one_hs q).2, HH.out]
   ·have hFq : F = q := by rw [← HFF.out]; exact go_done _ _ (fun h => hqe h.1)
    subst hFq
    have hqe0 : (F.e == 0) = false := beq_eq_false_iff_ne.2 hqe
    have hqe1 : (F.e != 0) = true := bne_iff_ne.2 hqe
    have HQE := Aside0.mk hqe
    have x1 : wr.cell? ⟨g, 1, none⟩ = some (.int .i64 F.e) := blk_cell HX.out.1 1
    have x2 : wr.cell? ⟨g, 2, none⟩ = some (.int .i64 F.ln) := blk_cell HX.out.1 2
    have x3 : wr.cell? ⟨g, 3, none⟩ = some (.int .i64 F.cl) := blk_cell HX.out.1 3
    clear hqe
    go_wp2_with fail
    have HG0F := Aside0.mk (blk_below HG0B.out HX.out.out_below)
    have HG1F := Aside0.mk (blk_below HG1B.out HX.out.out_below)
    have HBF : Aside0 (Below W.heap.size W wr) := ⟨below_step HBW.out HX.out.out_below⟩
    have f0 : wr.frozen? ⟨gs, 0, none⟩ = false := blk_frozen HG0F.out 0
    have f1 : wr.frozen? ⟨gs, 1, none⟩ = false := blk_frozen HG0F.out 1
    have z0 : wr.cell? ⟨gs, 0, none⟩ = some (.int .i64 0) := blk_cell HG0F.out 0
    have z1 : wr.cell? ⟨gs, 1, none⟩ = some (.slice none 0 0) := blk_cell HG0F.out 1
    have g0 : wr.frozen? ⟨gs + 1, 0, none⟩ = false := blk_frozen HG1F.out 0
    have g1 : wr.frozen? ⟨gs + 1, 1, none⟩ = false := blk_frozen HG1F.out 1
    have g2 : wr.frozen? ⟨gs + 1, 2, none⟩ = false := blk_frozen HG1F.out 2
    have v0 : wr.cell? ⟨gs + 1, 0, none⟩ = some (.int .i64 0) := blk_cell HG1F.out 0
    have v1 : wr.cell? ⟨gs + 1, 1, none⟩ = some (.int .i64 0) := blk_cell HG1F.out 1
    have v2 : wr.cell? ⟨gs + 1, 2, none⟩ = some (.int .i64 0) := blk_cell HG1F.out 2
    have n1 : g ≠ gs := by omega
    have n2 : g ≠ gs + 1 := by omega
    have n3 : gs + 1 ≠ gs := by omega
    go_region
    go_wp2
    have hso := set_out HG0F.out HG1F.out (.int .i64 0) (.slice none 0 0) (.int .i64 F.e) (.int .i64 F.ln) (.int .i64 F.cl)
    refine bodyPost_ret (results_cc rfl _ _ gs (gs + 1) _ _ #[.int .i64 0, .slice none 0 0] #[.int .i64 F.e, .int .i64 F.ln, .int .i64 F.cl] (0, 0) (0, 0) _ _ rfl hso.1 Tryd.underlying24 rfl (by kernel_rfl) rfl hso.2 Tryd.underlying38 rfl (by kernel_rfl)) rfl ?_
    rw [HPF.out]
    rw [if_neg HQE.out, if_neg (show ¬ ((F.e, F.ln, F.cl) : Int × Int × Int).1 = 0 from HQE.out)]
    exact ⟨_, rfl, Kd.R_nil _ _ _ _ _, below_drew (set_below HBF.out (by rw [HGS.out]; exact Nat.le_refl _) _ _ _ _ _)⟩
 ·have he0 : (T.2.1 == 0) = false := beq_eq_false_iff_ne.2 he
  have he1 : (T.2.1 != 0) = true := bne_iff_ne.2 he
  have HE := Aside0.mk he
  clear he
  have x0 : ∀ v0 v1 v2 : Value, (wA.alloc (.cells #[v0, v1, v2] 38 (0, 0))).cell? ⟨wA.heap.size, 0, none⟩ = some v0 := fun v0 v1 v2 => blk_cell (blk_new wA _) 0
  go_wp2_with fail
  obtain ⟨wB, hwB⟩ : ∃ wB, wB = wA.alloc (.cells #[.int .i64 T.2.1, .int .i64 T.2.2.1, .int .i64 T.2.2.2] 38 (0, 0)) := ⟨_, rfl⟩
  rw [← hwB]
  have HBB : Aside0 (Below W.heap.size W wB) := ⟨by rw [hwB]; exact below_alloc HBA.out _⟩
  have HN : Aside0 (wB.heap[wA.heap.size]? = some (.cells #[.int .i64 T.2.1, .int .i64 T.2.2.1, .int .i64 T.2.2.2] 38 (0, 0))) := ⟨by rw [hwB]; exact blk_new wA _⟩
  have HG0B : Aside0 (wB.heap[gs]? = some (.cells #[.int .i64 0, .slice none 0 0] 24 (0, 0))) := ⟨by rw [hwB]; exact blk_alloc HG0A.out _⟩
  have HG1B : Aside0 (wB.heap[gs + 1]? = some (.cells #[.int .i64 0, .int .i64 0, .int .i64 0] 38 (0, 0))) := ⟨by rw [hwB]; exact blk_alloc HG1A.out _⟩
  obtain ⟨gn, hgn⟩ : ∃ gn, wA.heap.size = gn := ⟨_, rfl⟩
  have hl1 := blk_lt HG1A.out
  rw [hgn] at HN hl1 ⊢
  clear hwB hgn x0
  have y0 : wB.cell? ⟨gn, 0, none⟩ = some (.int .i64 T.2.1) := blk_cell HN.out 0
  have y1 : wB.cell? ⟨gn, 1, none⟩ = some (.int .i64 T.2.2.1) := blk_cell HN.out 1
  have y2 : wB.cell? ⟨gn, 2, none⟩ = some (.int .i64 T.2.2.2) := blk_cell HN.out 2
  have f0 : wB.frozen? ⟨gs, 0, none⟩ = false := blk_frozen HG0B.out 0
  have f1 : wB.frozen? ⟨gs, 1, none⟩ = false := blk_frozen HG0B.out 1
  have z0 : wB.cell? ⟨gs, 0, none⟩ = some (.int .i64 0) := blk_cell HG0B.out 0
  have z1 : wB.cell? ⟨gs, 1, none⟩ = some (.slice none 0 0) := blk_cell HG0B.out 1
  have g0 : wB.frozen? ⟨gs + 1, 0, none⟩ = false := blk_frozen HG1B.out 0
  have g1 : wB.frozen? ⟨gs + 1, 1, none⟩ = false := blk_frozen HG1B.out 1
  have g2 : wB.frozen? ⟨gs + 1, 2, none⟩ = false := blk_frozen HG1B.out 2
  have v0 : wB.cell? ⟨gs + 1, 0, none⟩ = some (.int .i64 0) := blk_cell HG1B.out 0
  have v1 : wB.cell? ⟨gs + 1, 1, none⟩ = some (.int .i64 0) := blk_cell HG1B.out 1
  have v2 : wB.cell? ⟨gs + 1, 2, none⟩ = some (.int .i64 0) := blk_cell HG1B.out 2
  have n1 : gn ≠ gs := by omega
  have n2 : gn ≠ gs + 1 := by omega
  have n3 : gs + 1 ≠ gs := by omega
  go_region
  go_wp2
  have hso := set_out HG0B.out HG1B.out (.int .i64 0) (.slice none 0 0) (.int .i64 T.2.1) (.int .i64 T.2.2.1) (.int .i64 T.2.2.2)
  refine bodyPost_ret (results_cc rfl _ _ gs (gs + 1) _ _ #[.int .i64 0, .slice none 0 0] #[.int .i64 T.2.1, .int .i64 T.2.2.1, .int .i64 T.2.2.2] (0, 0) (0, 0) _ _ rfl hso.1 Tryd.underlying24 rfl (by kernel_rfl) rfl hso.2 Tryd.underlying38 rfl (by kernel_rfl)) rfl ?_
  unfold parseF
  rw [HT.out, if_neg HE.out]
  exact ⟨_, rfl, Kd.R_nil _ _ _ _ _, below_drew (set_below HBB.out (by rw [HGS.out]; exact Nat.le_refl _) _ _ _ _ _)⟩
end Go.Proofs.YtadfcdpalcgghaaDoor.Q
