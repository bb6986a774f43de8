-- LexJoin, walked by hand.
-- HAND pendulum/pendulumlaw04.LexJoin rounds=0 making=1
-- NEEDS pendulum/pendulumlaw04.awake pendulum/lex.Tokens pendulum/pendulumref04.Same
import Derived.Test.YtbopjoeihoignaaQ0
import Derived.Test.YtbopjoeihoignaaQ0
import Derived.Test.YtbopjoeihoignaaQ8
import Derived.Test.YtbopjoeihoignaaHlex
import Derived.Test.YtbopjoeihoignaaHlexA
import Derived.Test.YtbopjoeihoignaaHlexLin
import Derived.Test.YtbopjoeihoignaaHlexW
import Derived.Test.YtbopjoeihoignaaLlex
import Derived.Test.YtbopjoeihoignaaLlexK
import Derived.Test.YtbopjoeihoignaaLlexR
import Derived.OpenShut
import Derived.WalkSpells
import Derived.IntWalk
import Derived.Lib.SlBytesConst
namespace Go.Proofs.Ytbopjoeihoignaa.Q
open Go.RowKit Go.Proofs.YtbopjoeihoignaaW.PrintWords Go.Proofs.YtbopjoeihoignaaW.PrintLast Go.Proofs.YtbopjoeihoignaaW.PrintMore
attribute [local go_sem] max2_int min2_int max_two min_two max_three min_three max_four min_four   -- for this text's walks alone
set_option linter.unusedVariables false
set_option linter.unusedSimpArgs false

def pendulumlaw04_LexJoin.f (a0 a1 : List Int) : Option Bool := some true
def pendulumlaw04_LexJoin.Pure : Prop := True
theorem rd_both (ys r2 : List S33) (e : S33) (L : Int) (i : Nat) (h : i < r2.length) : rd_T33 (ys ++ [e] ++ r2.map (shL L)) ((ys.length : Int) + 1 + (i : Int)) = shL L (rd_T33 r2 i) := by
  have e1 : ((ys.length : Int) + 1 + (i : Int)).toNat = (ys ++ [e]).length + i := by simp; omega
  unfold rd_T33
  rw [e1, List.getD_eq_getElem?_getD, List.getElem?_append_right (by omega), Nat.add_sub_cancel_left, List.getElem?_map, List.getElem?_eq_getElem h, List.getD_eq_getElem?_getD]
  simp [List.getElem?_eq_getElem h]
theorem rd_line (ys zs : List S33) (e : S33) : rd_T33 (ys ++ [e] ++ zs) (ys.length : Int) = e := by
  unfold rd_T33
  simp
theorem rd_mem {l : List S33} {i : Nat} (h : i < l.length) : rd_T33 l i ∈ l := by
  unfold rd_T33
  simp [List.getD_eq_getElem?_getD, List.getElem?_eq_getElem h]
def JoiS (w W : World) (g1 : Nat) (v1 : Value) (r1 : List S33) (e1 e2 e3 : Int) (g2 : Nat) (v2 : Value) (r2 : List S33) (f1 f2 f3 : Int) : Prop :=
  Below w.heap.size w W ∧ Kd.R k33 33 W w.heap.size (fun _ => True) v1 r1 ∧ W.heap[g1]? = some (.cells #[.int .i64 e1, .int .i64 e2, .int .i64 e3] 27 (0, 0)) ∧ Kd.R k33 33 W w.heap.size (fun _ => True) v2 r2 ∧ W.heap[g2]? = some (.cells #[.int .i64 f1, .int .i64 f2, .int .i64 f3] 27 (0, 0))
theorem JoiS.below {w W W' : World} {g1 g2 : Nat} {v1 v2 : Value} {r1 r2 : List S33} {e1 e2 e3 f1 f2 f3 : Int} (h : JoiS w W g1 v1 r1 e1 e2 e3 g2 v2 r2 f1 f2 f3) (hb : Below W.heap.size W W') : JoiS w W' g1 v1 r1 e1 e2 e3 g2 v2 r2 f1 f2 f3 :=
  ⟨below_step h.1 hb, Kd.R_below h.2.1 hb, blk_below h.2.2.1 hb, Kd.R_below h.2.2.2.1 hb, blk_below h.2.2.2.2 hb⟩
set_option maxHeartbeats 2000000 in
set_option maxRecDepth 100000 in
theorem lexjoin_far (A0 A1 : Option Addr) (c0 c1 : Nat) (l0 l1 : List Int) (w : World) (h : 2000 < l0.length ∨ 2000 < l1.length) :
    Calls Try.prog 8 #[.slice A0 l0.length c0, .slice A1 l1.length c1] w fun e w' => e = .returned (.bool true) ∧ Below w.heap.size w w' := by
  have HB := Aside0.mk (Below.refl w.heap.size w)
  by_cases h1 : 2000 < l0.length
  · have d1 : decide ((2000 : Int) < (l0.length : Int)) = true := by simp; omega
    clear h h1
    go_enter Try.func8, Try.ntmps8
    go_wp2_with (go_at_call 9; (with_reducible refine (pendulumlaw04_awake.calls true _ rfl).mono ?_); rintro e wA ⟨rfl, hb⟩; have HB1 := Aside0.mk (below_step HB.out hb); clear HB hb; have HB := HB1; clear HB1)
    go_ret
    exact ⟨rfl, HB.out⟩
  · have d1 : decide ((2000 : Int) < (l0.length : Int)) = false := by simp; omega
    have d2 : decide ((2000 : Int) < (l1.length : Int)) = true := by simp; omega
    clear h h1
    go_enter Try.func8, Try.ntmps8
    go_wp2_with (go_at_call 9; (with_reducible refine (pendulumlaw04_awake.calls true _ rfl).mono ?_); rintro e wA ⟨rfl, hb⟩; have HB1 := Aside0.mk (below_step HB.out hb); clear HB hb; have HB := HB1; clear HB1)
    go_ret
    exact ⟨rfl, HB.out⟩
set_option maxHeartbeats 2000000 in
set_option maxRecDepth 100000 in
theorem lexjoin_near (A0 A1 : Option Addr) (c0 c1 : Nat) (l0 l1 : List Int) (w : World) (hr0 : Kd.C (Kd.int .u8) w A0 l0.length l0) (hc0 : l0.length ≤ c0) (hr1 : Kd.C (Kd.int .u8) w A1 l1.length l1) (hc1 : l1.length ≤ c1) (hlen0 : l0.length ≤ 2000) (hlen1 : l1.length ≤ 2000)
    (r1 : List S33) (e1 e2 e3 : Int) (r2 : List S33) (f1 f2 f3 : Int) (r3 : List S33) (h1 h2 h3 : Int) (hF1 : lex_Tokens.f l0 = some (r1, e1, e2, e3)) (hF2 : lex_Tokens.f l1 = some (r2, f1, f2, f3)) (hF3 : lex_Tokens.f (l0 ++ 10 :: l1) = some (r3, h1, h2, h3)) (hJ : Joined r1 e1 e2 e3 r2 f1 f2 f3 r3 h1 h2 h3) :
    Calls Try.prog 8 #[.slice A0 l0.length c0, .slice A1 l1.length c1] w fun e w' => e = .returned (.bool true) ∧ Below w.heap.size w w' := by
  have HB := Aside0.mk (Below.refl w.heap.size w)
  have d1 : decide ((2000 : Int) < (l0.length : Int)) = false := by simp; omega
  have d2 : decide ((2000 : Int) < (l1.length : Int)) = false := by simp; omega
  have HR0 := Aside0.mk hr0
  have HC0 := Aside0.mk hc0
  have HR1 := Aside0.mk hr1
  have HC1 := Aside0.mk hc1
  have HF1 := Aside0.mk hF1
  have HF2 := Aside0.mk hF2
  have HF3 := Aside0.mk hF3
  have HJ := Aside0.mk hJ
  have HL := Aside0.mk (And.intro hlen0 hlen1)
  clear hr0 hc0 hr1 hc1 hF1 hF2 hF3 hJ hlen0 hlen1
  have T1 : True := trivial
  go_enter Try.func8, Try.ntmps8
  go_wp2_with (first
    | (go_at_call 9; (with_reducible refine (pendulumlaw04_awake.calls true _ rfl).mono ?_); rintro e wA ⟨rfl, hb⟩; have HB1 := Aside0.mk (below_step HB.out hb); clear HB hb; have HB := HB1; clear HB1)
    | (go_at_call 10; have _t := T1; (with_reducible refine (lex_Tokens.calls A0 c0 l0 r1 e1 e2 e3 _ ?side1 HC0.out HF1.out).mono ?_); (case side1 => exact Kd.C_below HR0.out HB.out); rintro e w1 ⟨v1, rfl, ho, hb⟩; have HO1 := Aside0.mk (Kd.R_lower ho (below_size HB.out)); have HB1 := Aside0.mk (below_step HB.out hb); have hz1 := hb.size; clear HB hb ho T1; have HB := HB1; clear HB1)
    | (go_at_call 10; (with_reducible refine (lex_Tokens.calls A1 c1 l1 r2 f1 f2 f3 _ ?side1 HC1.out HF2.out).mono ?_); (case side1 => exact Kd.C_alloc (Kd.C_below HR1.out HB.out) _); rintro e w2 ⟨v2, rfl, ho, hb⟩; have HO2 := Aside0.mk ho; have HB2 := Aside0.mk hb; clear hb ho)
    | ((with_reducible refine gate_dst (N := 38) rfl ?_); refine Kd.R_lit (Kd.int .u8) _ 5 ?hg (N := 38) ?hd (xs := ([] : List Int)) (inner := []) (ok := fun _ => True) (okp := fun _ => True) ?hr ?hp (fun _ hk => hk) trivial (Below.refl _ _) (Nat.le_refl _) (by simp) ?_; (case hd => rfl); (case hg => rfl); (case hr => first | (go_simp; done) | (go_simp; rfl)); (case hp => exact (Reps.none _ _)); intro v3 w3 ho hb _ _; obtain ⟨wr, hwr⟩ : ∃ wr, wr = w2.alloc (.cells #[.int .i64 f1, .int .i64 f2, .int .i64 f3] 27) := ⟨_, rfl⟩; rw [← hwr] at ho hb; have HS : Aside0 (JoiS w wr w1.heap.size v1 r1 e1 e2 e3 w2.heap.size v2 r2 f1 f2 f3) := ⟨by rw [hwr]; exact ⟨below_alloc (below_step (below_alloc HB.out _) HB2.out) _, Kd.R_alloc (Kd.R_below (Kd.R_alloc HO1.out _) HB2.out) _, blk_alloc (blk_below (blk_new _ _) HB2.out) _, Kd.R_lower (Kd.R_alloc HO2.out _) (below_size (below_alloc HB.out _)), blk_new _ _⟩⟩; have HCr : Aside0 (∀ W, Below wr.heap.size wr W → Kd.C (Kd.int .u8) W A0 l0.length l0 ∧ Kd.C (Kd.int .u8) W A1 l1.length l1) := ⟨fun W h => ⟨Kd.C_below (Kd.C_below HR0.out HS.out.1) h, Kd.C_below (Kd.C_below HR1.out HS.out.1) h⟩⟩; have HBr := Aside0.mk hb; have HO3 := Aside0.mk ho; clear ho hb hwr)
    | ((with_reducible refine gate_builtin (b := .append) (xs := #[.tmp 38, .tmp 39]) rfl ?_); at_builtin; refine Kd.R_append_rows (Kd.int .u8) (w0 := wr) wr.heap.size rfl (.tmp 38) (.tmp 39) 22 5 (.int .u8 0) 1 rfl Try.underlying22 lex_info5 rfl (by decide) (by omega) v3 [] l0 _ _ _ (fun _ => True) (fun _ => False) rfl rfl HO3.out (HCr.out _ HBr.out).1 (fun _ _ h => h) (fun _ h => h.elim) (fun _ _ => trivial) HBr.out (below_size HBr.out) ?aL ?_; (case aL => have := HL.out.1; simp; omega); intro v4 w4 ho hb hg hat; have HB1 := Aside0.mk hb; have HO4 := Aside0.mk ho; clear HBr HO3 ho hb hg hat; have HBr := HB1; clear HB1)
    | ((with_reducible refine gate_builtin (b := .append) (xs := #[.tmp 40, .tmp 41]) rfl ?_); at_builtin; refine Kd.R_append (Kd.int .u8) (w0 := wr) wr.heap.size rfl (.tmp 40) (.tmp 41) 22 5 (.int .u8 0) 1 rfl Try.underlying22 lex_info5 rfl (by decide) (by omega) v4 ([] ++ l0) (10 : Int) [.int .u8 10] (fun _ => True) (fun _ => False) rfl rfl ?aP (fun _ hk => hk.elim) (fun _ _ => trivial) HO4.out HBr.out (below_size HBr.out) ?aL ?_; (case aP => exact rfl); (case aL => have := HL.out.1; simp; omega); intro v5 w5 ho hb hg hat; have HB1 := Aside0.mk hb; have HO5 := Aside0.mk ho; clear HBr HO4 ho hb hg hat; have HBr := HB1; clear HB1)
    | ((with_reducible refine gate_builtin (b := .append) (xs := #[.tmp 42, .tmp 43]) rfl ?_); at_builtin; refine Kd.R_append_rows (Kd.int .u8) (w0 := wr) wr.heap.size rfl (.tmp 42) (.tmp 43) 22 5 (.int .u8 0) 1 rfl Try.underlying22 lex_info5 rfl (by decide) (by omega) v5 ([] ++ l0 ++ [10]) l1 _ _ _ (fun _ => True) (fun _ => False) rfl rfl HO5.out (HCr.out _ HBr.out).2 (fun _ _ h => h) (fun _ h => h.elim) (fun _ _ => trivial) HBr.out (below_size HBr.out) ?aL ?_; (case aL => have := HL.out.1; have := HL.out.2; simp; omega); intro v6 w6 ho hb hg hat; have HB1 := Aside0.mk hb; have HO6 := Aside0.mk ho; clear HBr HO5 ho hb hg hat; have HBr := HB1; clear HB1; obtain ⟨A6, n6, c6, rfl⟩ : ∃ A1 n1 c1, v6 = Value.slice A1 n1 c1 := (by obtain ⟨A1, c1, h⟩ := Kd.R_slice HO6.out; exact ⟨_, _, _, h⟩)))
  have hL2 : ([] ++ l0 ++ [10] ++ l1) = l0 ++ 10 :: l1 := by simp
  have HO7 := HO6.out
  rw [hL2] at HO7
  obtain ⟨A6', c6', e6, hle6, hC6⟩ := Kd.R_reads HO7
  injection e6 with e61 e62 e63
  subst e61 e62 e63
  have HS6 := HS.out.below HBr.out
  clear HO6 HO7 hL2 HS HBr HCr HB HB2 HO1 HO2
  obtain ⟨g1, hg1⟩ : ∃ g1, g1 = w1.heap.size := ⟨_, rfl⟩
  obtain ⟨g2, hg2⟩ : ∃ g2, g2 = w2.heap.size := ⟨_, rfl⟩
  rw [← hg1, ← hg2] at HS6 ⊢
  clear hg1 hg2
  refine (lex_Tokens.calls A6 c6 _ _ _ _ _ _ hC6 hle6 HF3.out).mono ?_
  rintro ee w7 ⟨v7, rfl, hR7, hB7⟩
  have HS7 := Aside0.mk (HS6.below hB7)
  have HR7 := Aside0.mk (Kd.R_lower hR7 (below_size HS6.1))
  clear hC6 hle6 hB7 hR7 HS6
  have HB8 := Aside0.mk (below_alloc HS7.out.1 (.cells #[.int .i64 h1, .int .i64 h2, .int .i64 h3] 27))
  have hb1 := blk_alloc HS7.out.2.2.1 (.cells #[.int .i64 h1, .int .i64 h2, .int .i64 h3] 27)
  have hb2 := blk_alloc HS7.out.2.2.2.2 (.cells #[.int .i64 h1, .int .i64 h2, .int .i64 h3] 27)
  have p0 := blk_cell hb1 0
  have p1 := blk_cell hb1 1
  have p2 := blk_cell hb1 2
  have q0 := blk_cell hb2 0
  have q1 := blk_cell hb2 1
  have q2 := blk_cell hb2 2
  have HR1 := Aside0.mk (Kd.R_alloc HS7.out.2.1 (.cells #[.int .i64 h1, .int .i64 h2, .int .i64 h3] 27))
  have HR2 := Aside0.mk (Kd.R_alloc HS7.out.2.2.2.1 (.cells #[.int .i64 h1, .int .i64 h2, .int .i64 h3] 27))
  have HR3 := Aside0.mk (Kd.R_alloc HR7.out (.cells #[.int .i64 h1, .int .i64 h2, .int .i64 h3] 27))
  clear hb1 hb2 HS7 HR7
  cases HJ.out with
  | first he a1 a2 a3 a4 =>
    subst a1 a2 a3 a4
    have hne : (h1 != 0) = true := bne_iff_ne.mpr he
    clear he
    go_wp2
    go_ret
    exact ⟨by simp, HB8.out⟩
  | second ys L C b0 b1 c0 c1 hy e he hf a1 a2 a3 =>
    subst e he a1 a2 a3
    have hne : (h1 != 0) = true := bne_iff_ne.mpr hf
    obtain ⟨A8, c8, e8, hl8, hC8⟩ := Kd.R_reads HR1.out
    rw [List.length_append, List.length_singleton] at e8 hl8
    subst e8
    have hll : (ys ++ [(⟨4, (⟨#[]⟩ : ByteArray), 0, L, C⟩ : S33)]).length = ys.length + 1 := by simp
    obtain ⟨ad, e, x0, x1, x2, x3, x4⟩ := at_T33 hC8 (ys.length : Int) (by omega) (by rw [hll]; omega)
    cases e
    rw [rd_last] at x3
    simp only [Int.toNat_natCast] at x3
    have q0' : (0 : Int) ≤ (ys.length : Int) := by omega
    have q1' : (ys.length : Int) < (ys.length : Int) + 1 := by omega
    clear hf x0 x1 x2 x4 hll hC8 hl8
    go_wp2
    go_ret
    exact ⟨by simp, HB8.out⟩
  | both ys L C b0 b1 hs hy hy2 e he hf hh a =>
    subst e he hf hh a
    obtain ⟨A8, c8, e8, hl8, hC8⟩ := Kd.R_reads HR1.out
    rw [List.length_append, List.length_singleton] at e8 hl8
    subst e8
    have hll : (ys ++ [(⟨4, (⟨#[]⟩ : ByteArray), 0, L, C⟩ : S33)]).length = ys.length + 1 := by simp
    obtain ⟨ad, e, x0, x1, x2, x3, x4⟩ := at_T33 hC8 (ys.length : Int) (by omega) (by rw [hll]; omega)
    cases e
    rw [rd_last] at x3
    simp only [Int.toNat_natCast] at x3
    have q0' : (0 : Int) ≤ (ys.length : Int) := by omega
    have q1' : (ys.length : Int) < (ys.length : Int) + 1 := by omega
    obtain ⟨A9, c9, e9, hl9, hC9⟩ := Kd.R_reads HR2.out
    subst e9
    obtain ⟨A10, c10, e10, hl10, hC10⟩ := Kd.R_reads HR3.out
    have hl3 : (ys ++ [(⟨3, (⟨#[]⟩ : ByteArray), 0, L, C⟩ : S33)] ++ r2.map (shL L)).length = ys.length + 1 + r2.length := by simp; omega
    rw [hl3] at e10 hl10
    subst e10
    have HC8 := Aside0.mk hC8
    have HC9 := Aside0.mk hC9
    have HC10 := Aside0.mk hC10
    have HLL := Aside0.mk (And.intro hl8 (And.intro hl9 hl10))
    have HLS := Aside0.mk hs
    clear x0 x1 x2 x4 hll hl3 hC8 hC9 hC10 hl8 hl9 hl10 HR1 HR2 HR3 hs
    go_wp2_with fail
    obtain ⟨W8, hW8⟩ : ∃ W8, W8 = w7.alloc (.cells #[.int .i64 0, .int .i64 h2, .int .i64 h3] 27) := ⟨_, rfl⟩
    rw [← hW8] at HC8 HC9 HC10 HB8 ⊢
    clear hW8 p0 p1 p2 q0 q1 q2 x3
    go_loopg [12] (r2.length) (fun kq v12 wr => ∃ i : Nat, v12 = .int .i64 i ∧ i ≤ r2.length ∧ Aside0 (kq + i = r2.length) ∧ Aside0 (Below W8.heap.size W8 wr))
    case atStart => exact ⟨0, rfl, by omega, ⟨rfl⟩, ⟨Below.refl _ _⟩⟩
    case round =>
      obtain ⟨i, rfl, il, HK, HBr⟩ := hrel
      by_cases hi : i < r2.length
      · have hd : decide ((i : Int) < (r2.length : Int)) = true := by simp; omega
        obtain ⟨t, ht⟩ : ∃ t, rd_T33 r2 i = t := ⟨_, rfl⟩
        have htl := HLS.out _ (rd_mem hi)
        rw [ht] at htl
        obtain ⟨t0, t1, t2, t3, t4⟩ := t
        obtain ⟨htl0, htl1⟩ := htl
        dsimp only at htl0 htl1
        obtain ⟨bd, e, y0, y1, y2, y3, y4⟩ := at_T33 (Kd.C_below HC9.out HBr.out) (i : Int) (by omega) (by omega)
        cases e
        rw [ht] at y0 y1 y2 y3 y4
        have hrb := rd_both ys r2 ⟨3, (⟨#[]⟩ : ByteArray), 0, L, C⟩ L i hi
        rw [ht] at hrb
        have hl3 : (ys ++ [(⟨3, (⟨#[]⟩ : ByteArray), 0, L, C⟩ : S33)] ++ r2.map (shL L)).length = ys.length + 1 + r2.length := by simp; omega
        have hC10 := Kd.C_alloc (Kd.C_below HC10.out HBr.out) (.cells #[.int .i64 t0, .string t1, .int .i64 t2, .int .i64 (t3 + L), .int .i64 t4] 33)
        obtain ⟨cd, e, z0, z1, z2, z3, z4⟩ := at_T33 hC10 ((ys.length : Int) + 1 + (i : Int)) (by omega) (by rw [hl3]; omega)
        cases e
        rw [hrb] at z0 z1 z2 z3 z4
        simp only [shL] at z0 z1 z2 z3 z4
        have i0 : (0 : Int) ≤ i := by omega
        have i1 : (i : Int) < (r2.length : Int) := by omega
        have i2 : (0 : Int) ≤ (ys.length : Int) + 1 + (i : Int) := by omega
        have i3 : (ys.length : Int) + 1 + (i : Int) < (ys.length : Int) + 1 + (r2.length : Int) := by omega
        have hw1 : IntKind.i64.wrap ((ys.length : Int) + 1 + (i : Int)) = (ys.length : Int) + 1 + (i : Int) := IntWalk.i64_in _ (by omega)
        simp only [Int.toNat_natCast] at y0 y1 y2 y3 y4
        clear hrb hl3 hC10 ht
        go_wp2_with fail
        go_quiet (fail)
        go_wp2
        go_roundg (r2.length - (i + 1))
        case measure => have := HK.out; omega
        case rel => exact ⟨i + 1, by go_num, by omega, ⟨by omega⟩, ⟨pw_below_drewN (below_alloc HBr.out _) _⟩⟩
      · have hd : decide ((i : Int) < (r2.length : Int)) = false := by simp; omega
        obtain ⟨adx, e, x0, x1, x2, x3, x4⟩ := at_T33 (Kd.C_below HC10.out HBr.out) (ys.length : Int) (by omega) (by simp; omega)
        cases e
        rw [rd_line] at x0
        simp only [Int.toNat_natCast] at x0
        obtain ⟨K, hK⟩ := same_ev ys (by omega)
        have HK1 : Aside0 (pendulumref04_Same.f K ys ys = some true) := ⟨hK K (Nat.le_refl _)⟩
        have HCC : Aside0 (∀ W, Below wr.heap.size wr W → Kd.C k33 W (some ad) ys.length ys) := ⟨fun W h => by
          have := Kd.C_take (m := ys.length) (Kd.C_below (Kd.C_below HC8.out HBr.out) h) (by simp)
          simpa using this⟩
        have HCD : Aside0 (∀ W, Below wr.heap.size wr W → Kd.C k33 W (some adx) ys.length ys) := ⟨fun W h => by
          have := Kd.C_take (m := ys.length) (Kd.C_below (Kd.C_below HC10.out HBr.out) h) (by simp)
          simpa using this⟩
        have m0 : (0 : Int) ≤ (ys.length : Int) := by omega
        have m1 : (ys.length : Int) < (ys.length : Int) + 1 + (r2.length : Int) := by omega
        have m2 : (ys.length : Int) ≤ c8 := by have := HLL.out.1; omega
        have m3 : (ys.length : Int) ≤ c10 := by have := HLL.out.2.2; omega
        have hw1 : IntKind.i64.wrap (ys.length : Int) = (ys.length : Int) := IntWalk.i64_in _ (by omega)
        have HB9 := Aside0.mk (below_step HB8.out HBr.out)
        clear x1 x2 x3 x4 hK HC8 HC9 HC10 HB8 HBr
        go_wp2_with fail
        go_quiet ((go_at_call 12; exact Calls.quiet_of ((pendulumref04_Same.calls K (some adx) c10 ys (some ad) c8 ys true _ (HCD.out _ (pw_below_drewN (Below.refl _ _) _)) (by omega) (HCC.out _ (pw_below_drewN (Below.refl _ _) _)) (by omega) HK1.out).mono fun e w' ⟨he, hd⟩ => ⟨he, hd.out⟩)))
        go_wp2
        go_ret
        exact ⟨rfl, pw_below_drewN HB9.out _⟩
theorem pendulumlaw04_LexJoin.walk (P : pendulumlaw04_LexJoin.Pure) (a0 : Option Addr) (len0 cap0 : Nat) (z0 : List Int) (a1 : Option Addr) (len1 cap1 : Nat) (z1 : List Int) (w : World) (w0 : (a0 = none ∧ len0 = 0 ∧ cap0 = 0 ∧ z0 = []) ∨ ∃ x, a0 = some x ∧ len0 ≤ cap0 ∧ cap0 ≤ maxLen ∧ z0.length = cap0 ∧ (∀ i, i < z0.length → w.cell? (x.add i) = some (.int .u8 (z0.getD i 0))) ∧ ∀ n ∈ z0, (Lit.int .u8 n).wf = true) (y0 : len0 * 1 ≤ 140737488351232) (w1 : (a1 = none ∧ len1 = 0 ∧ cap1 = 0 ∧ z1 = []) ∨ ∃ x, a1 = some x ∧ len1 ≤ cap1 ∧ cap1 ≤ maxLen ∧ z1.length = cap1 ∧ (∀ i, i < z1.length → w.cell? (x.add i) = some (.int .u8 (z1.getD i 0))) ∧ ∀ n ∈ z1, (Lit.int .u8 n).wf = true) (y1 : len1 * 1 ≤ 140737488351232) :
    Calls Try.prog 8 #[.slice a0 len0 cap0, .slice a1 len1 cap1] w fun e w' => e = .returned (.bool true) ∧ Below w.heap.size w w' := by
  obtain ⟨l0, rfl, hr0, hm0, hw0, hc0⟩ := ReadsInt.ofRowC w0
  obtain ⟨l1, rfl, hr1, hm1, hw1, hc1⟩ := ReadsInt.ofRowC w1
  by_cases h : 2000 < l0.length ∨ 2000 < l1.length
  · exact lexjoin_far a0 a1 cap0 cap1 l0 l1 w h
  · have o0 := ok_of_wf hw0
    have o1 := ok_of_wf hw1
    have o2 : okBytes (l0 ++ 10 :: l1) = true := by unfold okBytes at *; rw [List.all_append, List.all_cons, o0, o1]; rfl
    exact lexjoin_near a0 a1 cap0 cap1 l0 l1 w (Kd.C_of_reads (d := (0 : Int)) (h1 := fun _ => rfl) hr0) hc0 (Kd.C_of_reads (d := (0 : Int)) (h1 := fun _ => rfl) hr1) hc1 (by omega) (by omega) _ _ _ _ _ _ _ _ _ _ _ _ (lex_some (by omega) o0) (lex_some (by omega) o1) (lex_some (by rw [List.length_append, List.length_cons]; omega) o2) (joined l0 l1 (by omega) (by omega))
end Go.Proofs.Ytbopjoeihoignaa.Q
