-- The reference's set, read by lines: walked by hand.
-- HAND pendulum/pendulumref06.Set rounds=0 making=1
-- NEEDS pendulum/pendulumref04.Tokens pendulum/pendulumref05.Why pendulum/pendulumref06.spot pendulum/pendulumref06.shape pendulum/pendulumref06.line pendulum/pendulumref06.Mode pendulum/lex.Tokens slices.Index[[]string,string]
import Derived.Test.YtddbkcfdfgehkaaDoorM0
import Derived.Test.YtddbkcfdfgehkaaDoorQ10
import Derived.Test.YtddbkcfdfgehkaaDoorQ11
import Derived.Test.YtddbkcfdfgehkaaDoorQ16
import Derived.Test.YtddbkcfdfgehkaaDoorM1
import Derived.Test.YtddbkcfdfgehkaaDoorHparsD
import Derived.Test.YtddbkcfdfgehkaaDoorHparsE
import Derived.Test.YtddbkcfdfgehkaaDoorHparsF
import Derived.Test.YtddbkcfdfgehkaaDoorM14
import Derived.Test.YtddbkcfdfgehkaaDoorHwhyR
import Derived.Test.YtddbkcfdfgehkaaDoorM12
namespace Go.Proofs.YtddbkcfdfgehkaaDoor.Q
open Go.RowKit Go.Proofs.YtddbkcfdfgehkaaDoorW.PrintWords Go.Proofs.YtddbkcfdfgehkaaDoorW.PrintLast Go.Proofs.YtddbkcfdfgehkaaDoorW.PrintMore
attribute [local go_sem] max2_int min2_int max_two min_two max_three min_three max_four min_four   -- for this text's walks alone
set_option linter.unusedVariables false
set_option linter.unusedSimpArgs false

attribute [local go_sem] tok_f0 tok_f1 tok_f2 tok_f3 tok_f4
theorem parse_refGo (l : List Int) (h : (lexToks l).2.1 = 0) (f : Nat) (hf : (lexToks l).1.length < f) : refGo f (PS.init (lexToks l).1) 0 = parseF l := by
 obtain ⟨h1, h2⟩ := lexJ l h
 rw [refGo_eq f (PS.init (lexToks l).1) 0 (lexToks l).1.length rfl h1 h2 hf (Nat.le_refl _), if_pos rfl]
 unfold parseF
 rw [if_pos h]
 rfl
def pendulumref06_Set.f (l : List Int) : Option (Int × List TK × Int × Int × Int) := if okBytes l = true ∧ l.length ≤ 100000 then some (parseF l) else none
set_option maxHeartbeats 40000000 in
set_option maxRecDepth 100000 in
theorem ref_ask (A0 : Option Addr) (c0 : Nat) (l0 : List Int) (W : World) (hr0 : Kd.C (Kd.int .u8) W A0 l0.length l0) (hc0 : l0.length ≤ c0) (hok : okBytes l0 = true) (hlen : l0.length ≤ 100000) :
  Calls Tryd.prog 11 #[.slice A0 l0.length c0] W fun e W' => ∃ vt, e = .returned (.tuple #[.agg #[.int .i64 (parseF l0).1, vt], .agg #[.int .i64 (parseF l0).2.2.1, .int .i64 (parseF l0).2.2.2.1, .int .i64 (parseF l0).2.2.2.2]]) ∧ Kd.R k40 40 W' W.heap.size (fun _ => True) vt (parseF l0).2.1 ∧ Below W.heap.size W W' := by
 have HR0 := Aside0.mk hr0
 have HOK := Aside0.mk hok
 have HPR := Aside0.mk (parse_refGo l0)
 have HLJ := Aside0.mk (lexJ l0)
 clear hr0 hok
 obtain ⟨W1, hW1⟩ : ∃ W1, W1 = (W.alloc (.cells #[.int .i64 0, .slice none 0 0] 26 (0, 0))).alloc (.cells #[.int .i64 0, .int .i64 0, .int .i64 0] 29 (0, 0)) := ⟨_, rfl⟩
 have HW1 := Aside0.mk hW1
 clear hW1
 go_enter Tryd.func11, Tryd.ntmps11
 go_wp2_with fail
 rw [← HW1.out]
 have hb1 : Below W.heap.size W W1 := by rw [HW1.out]; exact below_alloc (below_alloc (Below.refl _ _) _) _
 have HB1 := Aside0.mk hb1
 have HR1 := Aside0.mk (Kd.C_below HR0.out hb1)
 have HG0 : Aside0 (W1.heap[W.heap.size]? = some (.cells #[.int .i64 0, .slice none 0 0] 26 (0, 0))) := ⟨by rw [HW1.out]; exact blk_alloc (blk_new W _) _⟩
 have HG1 : Aside0 (W1.heap[W.heap.size + 1]? = some (.cells #[.int .i64 0, .int .i64 0, .int .i64 0] 29 (0, 0))) := ⟨by rw [HW1.out]; have h := blk_new (W.alloc (.cells #[.int .i64 0, .slice none 0 0] 26 (0, 0))) (.cells #[.int .i64 0, .int .i64 0, .int .i64 0] 29 (0, 0)); simpa using h⟩
 clear hb1 HR0
 obtain ⟨gs, hgs⟩ : ∃ gs, W.heap.size = gs := ⟨_, rfl⟩
 have HGS := Aside0.mk hgs
 rw [hgs] at HG0 HG1
 have hlx := lexG l0
 obtain ⟨K, hK⟩ := ref_tokens l0 (by omega) HOK.out
 have hK := hK K (Nat.le_refl _)
 have HPF : Aside0 (parseF l0 = if (lexToks l0).2.1 = 0 then parseF l0 else (0, [], (lexToks l0).2)) := ⟨by split <;> (unfold parseF; simp [*])⟩
 obtain ⟨T, hT⟩ : ∃ T, lexToks l0 = T := ⟨_, rfl⟩
 rw [hT] at hlx hK HPR HLJ HPF
 have HLX := Aside0.mk hlx
 have HF := Aside0.mk hK
 clear hlx hT hK
 try rw [hgs]
 clear hgs
 refine (pendulumref04_Tokens.calls K A0 c0 l0 T.1 T.2.1 T.2.2.1 T.2.2.2 W1 HR1.out hc0 HF.out).mono ?_
 rintro e wA ⟨v0, rfl, hR, hb⟩
 have HG0A := Aside0.mk (blk_below HG0.out hb)
 have HG1A := Aside0.mk (blk_below HG1.out hb)
 have HBA := Aside0.mk (below_step HB1.out hb)
 have HRA := Aside0.mk hR
 clear hR hb HG0 HG1
 obtain ⟨A1, c1, hv1, lc1, C1⟩ := Kd.R_reads HRA.out
 subst hv1
 have HC1 := Aside0.mk C1
 clear C1 HRA
 by_cases he : T.2.1 = 0
 ·have he0 : (T.2.1 == 0) = true := beq_iff_eq.2 he
  have he1 : (T.2.1 != 0) = false := by rw [he]; rfl
  have HE := Aside0.mk he
  clear he
  have x0 : ∀ v0 v1 v2 : Value, (wA.alloc (.cells #[v0, v1, v2] 29 (0, 0))).cell? ⟨wA.heap.size, 0, none⟩ = some v0 := fun v0 v1 v2 => blk_cell (blk_new wA _) 0
  go_wp2_with fail
  obtain ⟨w0, hw0⟩ : ∃ w0, w0 = wA.alloc (.cells #[.int .i64 T.2.1, .int .i64 T.2.2.1, .int .i64 T.2.2.2] 29 (0, 0)) := ⟨_, rfl⟩
  have hsz : w0.heap.size = wA.heap.size + 1 := by rw [hw0]; simp
  rw [← hw0, ← hsz]
  have HBW : Aside0 (Below W.heap.size W w0) := ⟨by rw [hw0]; exact below_alloc HBA.out _⟩
  have HG0B : Aside0 (w0.heap[gs]? = some (.cells #[.int .i64 0, .slice none 0 0] 26 (0, 0))) := ⟨by rw [hw0]; exact blk_alloc HG0A.out _⟩
  have HG1B : Aside0 (w0.heap[gs + 1]? = some (.cells #[.int .i64 0, .int .i64 0, .int .i64 0] 29 (0, 0))) := ⟨by rw [hw0]; exact blk_alloc HG1A.out _⟩
  have HC2 : Aside0 (Kd.C k46 w0 A1 T.1.length T.1) := ⟨Kd.C_below HC1.out (by rw [hw0]; exact below_alloc (Below.refl _ _) _)⟩
  clear hsz hw0 x0
  have hTL : T.1.length ≤ 100001 := by have := HLX.out.2.1; omega
  have HTL := Aside0.mk hTL
  obtain ⟨w2, hw2⟩ : ∃ w2, w2 = (w0.alloc (.cells #[.int .i64 0, .slice none 0 0] 26 (0, 0))).alloc (.cells (tokCs z46) 46 (0, 0)) := ⟨_, rfl⟩
  have HX0 : Aside0 (RefX w0 w2 A1 c1 (.slice none 0 0) (.slice none 0 0) (PS.init T.1)) := ⟨by
   refine ⟨?_, ?_, lc1, Kd.C_below HC2.out ?_, Kd.R_nil _ _ _ _ _, Kd.R_nil _ _ _ _ _, ?_⟩
   ·rw [hw2]; exact blk_alloc (blk_new w0 _) _
   ·rw [hw2]
    have h := blk_new (w0.alloc (.cells #[.int .i64 0, .slice none 0 0] 26 (0, 0))) (.cells (tokCs z46) 46 (0, 0))
    show _ = some (Obj.cells (tokCs z46) 46 (0, 0))
    simpa using h
   ·rw [hw2]; exact below_alloc (below_alloc (Below.refl _ _) _) _
   ·rw [hw2]; exact below_alloc (below_alloc (Below.refl _ _) _) _⟩
  have HK0 : Aside0 (RefK w0 A1 (T.1.length + 2) (PS.init T.1) 0 (parseF l0)) := ⟨⟨rfl, (HLJ.out HE.out).1, (HLJ.out HE.out).2, by show T.1.length < _; omega, HPR.out HE.out _ (by omega), rfl, by show 0 + T.1.length ≤ _; omega, by show 0 + T.1.length ≤ _; omega, .inl HC2.out⟩⟩
  rw [show (w0.alloc (.cells #[.int .i64 0, .slice none 0 0] 26 (0, 0))).alloc (.cells #[.int .i64 0, .string ⟨#[]⟩, .int .i64 0, .int .i64 0, .int .i64 0] 46 (0, 0)) = w2 from hw2.symm]
  have HW2 := Aside0.mk hw2
  obtain ⟨g, hg⟩ : ∃ g, w0.heap.size = g := ⟨_, rfl⟩
  have HG := Aside0.mk hg
  have hgl : gs + 1 < g := by rw [← hg]; exact blk_lt HG1B.out
  rw [hg]
  clear hw2 hg hTL
  go_loopg [4, 8, 9] (T.1.length + 2) (fun kk v4 v8 v9 wr => ∃ (A : Option Addr) (c : Nat) (vts : Value) (p : PS) (n : Nat), v4 = .slice A p.l.length c ∧ v9 = .int .i64 n ∧ Aside0 (RefX w0 wr A c vts v8 p) ∧ Aside0 (RefK w0 A kk p n (parseF l0)))
  case atStart => exact ⟨A1, c1, .slice none 0 0, PS.init T.1, 0, rfl, rfl, HX0, HK0⟩
  case round =>
   clear HX0 HK0
   obtain ⟨A, c, vts, p, n, rfl, rfl, HX, HK⟩ := hrel
   have hpos : 0 < p.l.length := List.length_pos_iff.2 (EndsI.ends HK.out.2.1).ne
   have d1 : decide ((0 : Int) < (p.l.length : Int)) = true := by simp; omega
   have hp6 : p.l.length ≤ 1000000 := by have := HK.out.2.2.2.2.2.2.1; omega
   have HP6 := Aside0.mk hp6
   clear hp6
   go_wp2_with fail
   refine (pendulumref06_line.calls A c p.l _ wr HX.out.2.2.2.1 HX.out.2.2.1 HP6.out rfl).mono ?_
   rintro e wE ⟨rfl, hb⟩
   have hle := lineLen_le2 p.l
   have hlp : 0 < lineLen p.l := by
    obtain ⟨t, r, hl, _⟩ := HK.out.2.1.cons
    rw [hl, lineLen]; split <;> omega
   have HCL : Aside0 (Kd.C k46 wE A (p.l.take (lineLen p.l)).length (p.l.take (lineLen p.l))) := ⟨Kd.C_take (Kd.C_below HX.out.2.2.2.1 hb) hle⟩
   have hLn : (p.l.take (lineLen p.l)).length = lineLen p.l := by rw [List.length_take]; omega
   obtain ⟨L, hL⟩ : ∃ L, p.l.take (lineLen p.l) = L := ⟨_, rfl⟩
   rw [hL] at HCL hLn ⊢
   have HLD := Aside0.mk hL
   have hLp : 0 < L.length := by omega
   have hLm : L.length ≤ p.l.length := by omega
   obtain ⟨j, hj⟩ : ∃ j : Int, (L.length : Int) - 1 = j := ⟨_, rfl⟩
   have hw : IntKind.i64.wrap ((L.length : Int) - 1) = j := by
    have := HP6.out
    rw [← hj]; exact (i64_w _).trans (wrap_ok1 (by omega) (by omega))
   have hj0 : 0 ≤ j := by omega
   have hj1 : j < (L.length : Int) := by omega
   obtain ⟨ad, e1, y0, y1, y2, y3, y4⟩ := at_T46 HCL.out j hj0 hj1
   subst e1
   have htl : rd_T46 L j = p.l.getD (lineLen p.l - 1) z46 := by
    unfold rd_T46
    rw [show j.toNat = lineLen p.l - 1 by omega, ← HLD.out, List.getD_eq_getElem?_getD, List.getD_eq_getElem?_getD, List.getElem?_take, if_pos (by omega)]
   obtain ⟨t, ht⟩ : ∃ t, rd_T46 L j = t := ⟨_, rfl⟩
   rw [ht] at y0 y1 y2 y3 y4 htl
   have HT := Aside0.mk htl
   have p0 := eq_true hj0
   have p1 := eq_true hj1
   have c0b : decide (0 ≤ j) = true := decide_eq_true hj0
   have c1b : decide (j < (L.length : Int)) = true := decide_eq_true hj1
   obtain ⟨iT, hiT, hsT⟩ := infoTok
   have hcut := cut_from (P := Tryd.prog) 41 46 .i64 Tryd.underlying41 hiT 5 hsT (some ad) p.l.length c (L.length : Int) (by omega) (by omega)
   simp only [Int.toNat_natCast] at hcut
   obtain ⟨A4, hA4⟩ : ∃ A4, (if c = L.length then some ad else (some ad).map (·.add (L.length * 5))) = A4 := ⟨_, rfl⟩
   rw [hA4] at hcut
   have HXE : Aside0 (RefX w0 wE (some ad) c vts u8 p) := ⟨by
    obtain ⟨h1, h2, h3, h4, h5, h6, h7⟩ := HX.out
    exact ⟨blk_below h1 hb, blk_below h2 hb, h3, Kd.C_below h4 hb, Kd.R_below h5 hb, Kd.R_below h6 hb, below_step h7 hb⟩⟩
   have hrest : (p.l.drop L.length).length = p.l.length - L.length := List.length_drop
   have HCT : Aside0 (Kd.C k46 wE A4 (p.l.drop L.length).length (p.l.drop L.length)) := ⟨by
    have h := Kd.C_drop (c := c) HXE.out.2.2.2.1 hLm HXE.out.2.2.1
    have e1 : (if c = L.length then some ad else (some ad).map (·.add (L.length * (k46).sz))) = A4 := hA4
    rwa [e1] at h⟩
   have HCT0 : Aside0 (Kd.C k46 w0 (some ad) p.l.length p.l → Kd.C k46 w0 A4 (p.l.drop L.length).length (p.l.drop L.length)) := ⟨fun hh => by
    have h := Kd.C_drop (c := c) hh hLm HXE.out.2.2.1
    have e1 : (if c = L.length then some ad else (some ad).map (·.add (L.length * (k46).sz))) = A4 := hA4
    rwa [e1] at h⟩
   have HLN := Aside0.mk hLn
   have HPO := Aside0.mk hLp
   have HLM := Aside0.mk hLm
   clear hb hle hlp hL hLp hLm hj htl ht hj0 hj1 hiT hsT hA4 HX hpos d1 hLn
   have xt : ∀ v0 v1 v2 v3 v4 : Value, (wE.alloc (.cells #[v0, v1, v2, v3, v4] 46 (0, 0))).cell? ⟨wE.heap.size, 0, none⟩ = some v0 := fun v0 v1 v2 v3 v4 => blk_cell (blk_new wE _) 0
   by_cases ha : lineLen p.l = 1 ∧ t.f0 = 3
   ·-- ARM a
    have b1 : ((L.length : Int) == 1) = true := beq_iff_eq.2 (by have := HLN.out; omega)
    have b2 : (t.f0 == 3) = true := beq_iff_eq.2 ha.2
    have b4 : (t.f0 == 4) = false := by rw [ha.2]; rfl
    have HA := Aside0.mk ha
    clear ha
    go_wp2_with fail
    cases gk with
    | zero => exact absurd HK.out.2.2.2.1 (Nat.not_lt_zero _)
    | succ k1 =>
    go_roundg k1
    case measure => omega
    case rel =>
     have h1 : L.length = 1 := by have := HLN.out; have := HA.out.1; omega
     refine ⟨A4, c - L.length, vts, { p with l := p.l.drop L.length }, n, ?_, rfl, ⟨HXE.out.next _ HCT.out ?_⟩, ⟨?_⟩⟩
     ·rw [List.length_drop]
     ·have := HXE.out.2.2.1; rw [List.length_drop]; omega
     ·rw [h1]
      have h3 : (p.l.getD 0 z46).f0 = 3 := by have h := HT.out; rw [HA.out.1] at h; rw [← h]; exact HA.out.2
      exact HK.out.skip HA.out.1 h3 (by have h := HCT0.out; rw [h1] at h; exact h)
   ·by_cases hb2 : lineLen p.l = 1 ∧ 0 < n
    ·-- ARM b
     have h3n : t.f0 ≠ 3 := fun h => ha ⟨hb2.1, h⟩
     have ht4 : t.f0 = 4 := by
      have h := HT.out
      rw [hb2.1] at h
      have hm := HK.out.2.2.1 t (by
       rw [h]
       show p.l.getD 0 z46 ∈ p.l
       obtain ⟨t', q, hlq, _⟩ := HK.out.2.1.cons
       rw [hlq]; exact List.mem_cons_self)
      have hin := lineLen_in p.l HK.out.2.1 0 (by omega)
      have h : p.l.getD 0 z46 = t := h.symm
      rw [h] at hin
      by_cases h5 : t.f0 < 3
      ·have := hin h5; omega
      ·omega
     have b1 : ((L.length : Int) == 1) = true := beq_iff_eq.2 (by have := HLN.out; omega)
     have b2 : (t.f0 == 3) = false := beq_eq_false_iff_ne.2 h3n
     have b3 : decide (0 < n) = true := decide_eq_true hb2.2
     have b4 : (t.f0 == 4) = true := beq_iff_eq.2 ht4
     have HPE : Aside0 (parseF l0 = refEnd p t) := ⟨by
      obtain ⟨he, hE, h4, hl, hg, hh, hs, hn, hc⟩ := HK.out
      obtain ⟨k1, rfl⟩ : ∃ k1, gk = k1 + 1 := ⟨gk - 1, by omega⟩
      rw [← hg, refGo]
      simp only [← HT.out]
      rw [if_pos ⟨hb2.1, .inr hb2.2⟩, if_pos ht4]⟩
     obtain ⟨As, cs, hvs, hcs, hCs⟩ := Kd.R_reads HXE.out.2.2.2.2.1
     have HCS := Aside0.mk hCs
     have HCc := Aside0.mk hcs
     subst hvs
     obtain ⟨Ah, ch, hvh, hch, hCh⟩ := Kd.R_reads HXE.out.2.2.2.2.2.1
     subst hvh
     have HCH := Aside0.mk hCh
     have k0 : ∀ o, (wE.alloc o).cell? ⟨g, 0, none⟩ = some (.int .i64 p.b) := fun o => by rw [← HG.out]; exact blk_cell (blk_alloc HXE.out.1 o) 0
     have k1 : ∀ o, (wE.alloc o).cell? ⟨g, 1, none⟩ = some (.slice As p.ts.length cs) := fun o => by rw [← HG.out]; exact blk_cell (blk_alloc HXE.out.1 o) 1
     have HB2 := Aside0.mk hb2
     have HT4 := Aside0.mk ht4
     clear ht4 h3n hb2 ha hCs hcs hCh hch
     go_wp2_with fail
     obtain ⟨w1, at1, hwhy⟩ : ∃ a b, whyS p.b p.ts = (a, b) := ⟨_, _, rfl⟩
     have hpe := HPE.out
     unfold refEnd at hpe
     rw [hwhy] at hpe
     refine (pendulumref05_Why.calls p.b As cs p.ts w1 at1 _ (Kd.C_alloc HCS.out _) HCc.out (by unfold pendulumref05_Why.f; rw [hwhy])).mono ?_
     rintro e wF ⟨rfl, hb⟩
     have HWH := Aside0.mk hwhy
     have HPE2 := Aside0.mk hpe
     have HSF : Aside0 (wF.heap[g]? = some (.cells #[.int .i64 p.b, .slice As p.ts.length cs] 26 (0, 0))) := ⟨by rw [← HG.out]; exact blk_below (blk_alloc HXE.out.1 _) hb⟩
     have HTF : Aside0 (wF.heap[g + 1]? = some (.cells (tokCs p.bt) 46 (0, 0))) := ⟨by rw [← HG.out]; exact blk_below (blk_alloc HXE.out.2.1 _) hb⟩
     have HLF : Aside0 (wF.heap[wE.heap.size]? = some (.cells (tokCs t) 46 (0, 0))) := ⟨blk_below (blk_new wE _) hb⟩
     have HHF : Aside0 (Kd.C k46 wF Ah p.hs.length p.hs) := ⟨Kd.C_below (Kd.C_alloc HCH.out _) hb⟩
     have HRF : Aside0 (Kd.R k40 40 wF w0.heap.size (fun k => k ≠ w0.heap.size ∧ k ≠ w0.heap.size + 1) (.slice As p.ts.length cs) p.ts) := ⟨Kd.R_below (Kd.R_alloc HXE.out.2.2.2.2.1 _) hb⟩
     have HBF0 : Aside0 (Below w0.heap.size w0 wF) := ⟨below_step (below_alloc HXE.out.2.2.2.2.2.2 _) hb⟩
     have HBF : Aside0 (Below W.heap.size W wF) := ⟨below_step HBW.out HBF0.out⟩
     have HG0F := Aside0.mk (blk_below HG0B.out HBF0.out)
     have HG1F := Aside0.mk (blk_below HG1B.out HBF0.out)
     clear hb hwhy hpe k0 k1 y0 y1 y2 y3 y4 xt
     have q0 : wF.cell? ⟨g, 0, none⟩ = some (.int .i64 p.b) := blk_cell HSF.out 0
     have q1 : wF.cell? ⟨g, 1, none⟩ = some (.slice As p.ts.length cs) := blk_cell HSF.out 1
     have r0 : wF.cell? ⟨g + 1, 0, none⟩ = some (.int .i64 p.bt.f0) := blk_cell HTF.out 0
     have r1 : wF.cell? ⟨g + 1, 1, none⟩ = some (.string p.bt.f1) := blk_cell HTF.out 1
     have r2 : wF.cell? ⟨g + 1, 2, none⟩ = some (.int .i64 p.bt.f2) := blk_cell HTF.out 2
     have r3 : wF.cell? ⟨g + 1, 3, none⟩ = some (.int .i64 p.bt.f3) := blk_cell HTF.out 3
     have r4 : wF.cell? ⟨g + 1, 4, none⟩ = some (.int .i64 p.bt.f4) := blk_cell HTF.out 4
     have s0 : wF.cell? ⟨wE.heap.size, 0, none⟩ = some (.int .i64 t.f0) := blk_cell HLF.out 0
     have s1 : wF.cell? ⟨wE.heap.size, 1, none⟩ = some (.string t.f1) := blk_cell HLF.out 1
     have s2 : wF.cell? ⟨wE.heap.size, 2, none⟩ = some (.int .i64 t.f2) := blk_cell HLF.out 2
     have s3 : wF.cell? ⟨wE.heap.size, 3, none⟩ = some (.int .i64 t.f3) := blk_cell HLF.out 3
     have s4 : wF.cell? ⟨wE.heap.size, 4, none⟩ = some (.int .i64 t.f4) := blk_cell HLF.out 4
     by_cases e0 : w1 = 0
     ·have b5 : (w1 == 0) = true := beq_iff_eq.2 e0
      have HPE3 : Aside0 (parseF l0 = (p.b, p.ts, 0, 0, 0)) := ⟨by rw [HPE2.out]; simp only [if_pos e0]⟩
      clear e0
      have n1 : g ≠ gs := by omega
      have n2 : g ≠ gs + 1 := by omega
      have fz0 : wF.frozen? ⟨gs, 0, none⟩ = false := blk_frozen HG0F.out 0
      have z0 : wF.cell? ⟨gs, 0, none⟩ = some (.int .i64 0) := blk_cell HG0F.out 0
      have fz1 : wF.frozen? ⟨gs, 1, none⟩ = false := blk_frozen HG0F.out 1
      have z1 : wF.cell? ⟨gs, 1, none⟩ = some (.slice none 0 0) := blk_cell HG0F.out 1
      have gz0 : wF.frozen? ⟨gs + 1, 0, none⟩ = false := blk_frozen HG1F.out 0
      have vz0 : wF.cell? ⟨gs + 1, 0, none⟩ = some (.int .i64 0) := blk_cell HG1F.out 0
      have gz1 : wF.frozen? ⟨gs + 1, 1, none⟩ = false := blk_frozen HG1F.out 1
      have vz1 : wF.cell? ⟨gs + 1, 1, none⟩ = some (.int .i64 0) := blk_cell HG1F.out 1
      have gz2 : wF.frozen? ⟨gs + 1, 2, none⟩ = false := blk_frozen HG1F.out 2
      have vz2 : wF.cell? ⟨gs + 1, 2, none⟩ = some (.int .i64 0) := blk_cell HG1F.out 2
      have n3 : gs + 1 ≠ gs := by omega
      go_wp2
      have hso := set_out HG0F.out HG1F.out (.int .i64 p.b) (.slice As p.ts.length cs) (.int .i64 0) (.int .i64 0) (.int .i64 0)
      refine bodyPost_ret (results_cc rfl _ _ gs (gs + 1) _ _ #[.int .i64 p.b, .slice As p.ts.length cs] #[.int .i64 0, .int .i64 0, .int .i64 0] (0, 0) (0, 0) _ _ rfl hso.1 Tryd.underlying26 rfl (by kernel_rfl) rfl hso.2 Tryd.underlying29 rfl (by kernel_rfl)) rfl ?_
      rw [HPE3.out]
      refine ⟨_, rfl, Kd.R_lower (set_rows (Kd.R_mono (Kd.R_bound HRF.out) (fun k hk => ?_)) _ _ _ _ _) HBW.out.size, set_below HBF.out (by rw [HGS.out]; exact Nat.le_refl _) _ _ _ _ _⟩
      have h1 := hk.2.1
      have h2 := HG.out
      omega
     ·have b5 : (w1 == 0) = false := beq_eq_false_iff_ne.2 e0
      have E0 := Aside0.mk e0
      clear e0
      by_cases e1 : w1 = 1
      ·have b6 : (w1 == 1) = true := beq_iff_eq.2 e1
       have HPE3 : Aside0 (parseF l0 = (0, [], 1, p.bt.f3, p.bt.f4)) := ⟨by rw [HPE2.out]; simp only [if_neg E0.out, if_pos e1]⟩
       clear e1
       go_wp2_with fail
       refine (pendulumref06_spot.calls 1 (p.bt.f0) (p.bt.f1) (p.bt.f2) (p.bt.f3) (p.bt.f4) _ _ _ _ _ _ rfl).mono ?_
       rintro e wG ⟨vv, rfl, hR, hb⟩
       obtain ⟨Av, cv, rfl, hcv, hCv⟩ := Kd.R_reads hR
       have HRG := Aside0.mk hR
       have HG0G := Aside0.mk (blk_below HG0F.out hb)
       have HG1G := Aside0.mk (blk_below HG1F.out hb)
       have HBG := Aside0.mk (below_step HBF.out hb)
       have HSZ := Aside0.mk (Nat.le_trans HBF.out.size (Nat.le_refl _))
       have hl2 := blk_lt HG1F.out
       clear hR hb hCv
       have fz0 : wG.frozen? ⟨gs, 0, none⟩ = false := blk_frozen HG0G.out 0
       have z0 : wG.cell? ⟨gs, 0, none⟩ = some (.int .i64 0) := blk_cell HG0G.out 0
       have fz1 : wG.frozen? ⟨gs, 1, none⟩ = false := blk_frozen HG0G.out 1
       have z1 : wG.cell? ⟨gs, 1, none⟩ = some (.slice none 0 0) := blk_cell HG0G.out 1
       have gz0 : wG.frozen? ⟨gs + 1, 0, none⟩ = false := blk_frozen HG1G.out 0
       have vz0 : wG.cell? ⟨gs + 1, 0, none⟩ = some (.int .i64 0) := blk_cell HG1G.out 0
       have gz1 : wG.frozen? ⟨gs + 1, 1, none⟩ = false := blk_frozen HG1G.out 1
       have vz1 : wG.cell? ⟨gs + 1, 1, none⟩ = some (.int .i64 0) := blk_cell HG1G.out 1
       have gz2 : wG.frozen? ⟨gs + 1, 2, none⟩ = false := blk_frozen HG1G.out 2
       have vz2 : wG.cell? ⟨gs + 1, 2, none⟩ = some (.int .i64 0) := blk_cell HG1G.out 2
       have n3 : gs + 1 ≠ gs := by omega
       go_wp2
       have hso := set_out HG0G.out HG1G.out (.int .i64 0) (.slice Av 0 cv) (.int .i64 1) (.int .i64 (p.bt.f3)) (.int .i64 (p.bt.f4))
       refine bodyPost_ret (results_cc rfl _ _ gs (gs + 1) _ _ #[.int .i64 0, .slice Av 0 cv] #[.int .i64 1, .int .i64 (p.bt.f3), .int .i64 (p.bt.f4)] (0, 0) (0, 0) _ _ rfl hso.1 Tryd.underlying26 rfl (by kernel_rfl) rfl hso.2 Tryd.underlying29 rfl (by kernel_rfl)) rfl ?_
       rw [HPE3.out]
       refine ⟨_, rfl, Kd.R_lower (set_rows (Kd.R_mono (Kd.R_bound HRG.out) (fun k hk => ?_)) _ _ _ _ _) HSZ.out, set_below HBG.out (by rw [HGS.out]; exact Nat.le_refl _) _ _ _ _ _⟩
       have h1 := hk.2.1
       omega
      ·have b6 : (w1 == 1) = false := beq_eq_false_iff_ne.2 e1
       have E1 := Aside0.mk e1
       clear e1
       by_cases e2 : w1 = 2
       ·have b7 : (w1 == 2) = true := beq_iff_eq.2 e2
        by_cases e3 : p.hs.length = 0
        ·have b8 : ((p.hs.length : Int) == 0) = true := beq_iff_eq.2 (by omega)
         have HPE3 : Aside0 (parseF l0 = (0, [], 1, t.f3, t.f4)) := ⟨by rw [HPE2.out]; simp only [if_neg E0.out, if_neg E1.out, if_pos e2]; rw [if_neg (by omega)]⟩
         clear e2 e3
         go_wp2_with fail
         refine (pendulumref06_spot.calls 1 (t.f0) (t.f1) (t.f2) (t.f3) (t.f4) _ _ _ _ _ _ rfl).mono ?_
         rintro e wG ⟨vv, rfl, hR, hb⟩
         obtain ⟨Av, cv, rfl, hcv, hCv⟩ := Kd.R_reads hR
         have HRG := Aside0.mk hR
         have HG0G := Aside0.mk (blk_below HG0F.out hb)
         have HG1G := Aside0.mk (blk_below HG1F.out hb)
         have HBG := Aside0.mk (below_step HBF.out hb)
         have HSZ := Aside0.mk (Nat.le_trans HBF.out.size (Nat.le_refl _))
         have hl2 := blk_lt HG1F.out
         clear hR hb hCv
         have fz0 : wG.frozen? ⟨gs, 0, none⟩ = false := blk_frozen HG0G.out 0
         have z0 : wG.cell? ⟨gs, 0, none⟩ = some (.int .i64 0) := blk_cell HG0G.out 0
         have fz1 : wG.frozen? ⟨gs, 1, none⟩ = false := blk_frozen HG0G.out 1
         have z1 : wG.cell? ⟨gs, 1, none⟩ = some (.slice none 0 0) := blk_cell HG0G.out 1
         have gz0 : wG.frozen? ⟨gs + 1, 0, none⟩ = false := blk_frozen HG1G.out 0
         have vz0 : wG.cell? ⟨gs + 1, 0, none⟩ = some (.int .i64 0) := blk_cell HG1G.out 0
         have gz1 : wG.frozen? ⟨gs + 1, 1, none⟩ = false := blk_frozen HG1G.out 1
         have vz1 : wG.cell? ⟨gs + 1, 1, none⟩ = some (.int .i64 0) := blk_cell HG1G.out 1
         have gz2 : wG.frozen? ⟨gs + 1, 2, none⟩ = false := blk_frozen HG1G.out 2
         have vz2 : wG.cell? ⟨gs + 1, 2, none⟩ = some (.int .i64 0) := blk_cell HG1G.out 2
         have n3 : gs + 1 ≠ gs := by omega
         go_wp2
         have hso := set_out HG0G.out HG1G.out (.int .i64 0) (.slice Av 0 cv) (.int .i64 1) (.int .i64 (t.f3)) (.int .i64 (t.f4))
         refine bodyPost_ret (results_cc rfl _ _ gs (gs + 1) _ _ #[.int .i64 0, .slice Av 0 cv] #[.int .i64 1, .int .i64 (t.f3), .int .i64 (t.f4)] (0, 0) (0, 0) _ _ rfl hso.1 Tryd.underlying26 rfl (by kernel_rfl) rfl hso.2 Tryd.underlying29 rfl (by kernel_rfl)) rfl ?_
         rw [HPE3.out]
         refine ⟨_, rfl, Kd.R_lower (set_rows (Kd.R_mono (Kd.R_bound HRG.out) (fun k hk => ?_)) _ _ _ _ _) HSZ.out, set_below HBG.out (by rw [HGS.out]; exact Nat.le_refl _) _ _ _ _ _⟩
         have h1 := hk.2.1
         omega
        ·have b8 : ((p.hs.length : Int) == 0) = false := beq_eq_false_iff_ne.2 (by omega)
         have hidx : (16 : Int) < (p.hs.length : Int) := by
          have hh := HK.out.2.2.2.2.2.1
          have hr := whyS_range p.b p.ts
          rw [HWH.out] at hr
          have hr : w1 = 0 ∨ w1 = 1 ∨ (w1 = 2 ∧ (p.ts.length = 0 ∨ 16 < p.ts.length)) ∨ (3 ≤ w1 ∧ _) := hr
          have g0 := E0.out
          have g1 := E1.out
          rcases hr with h | h | ⟨_, h⟩ | ⟨h, _⟩
          ·exact absurd h g0
          ·exact absurd h g1
          ·omega
          ·omega
         have HPE3 : Aside0 (parseF l0 = (0, [], 1, (rd_T46 p.hs 16).f3, (rd_T46 p.hs 16).f4)) := ⟨by rw [HPE2.out]; simp only [if_neg E0.out, if_neg E1.out, if_pos e2]; rw [if_pos (by omega)]; rfl⟩
         obtain ⟨ah, e9, h0, h1, h2, h3, h4⟩ := at_T46 HHF.out 16 (by omega) hidx
         subst e9
         obtain ⟨th, hth⟩ : ∃ th, rd_T46 p.hs 16 = th := ⟨_, rfl⟩
         rw [hth] at h0 h1 h2 h3 h4 HPE3
         obtain ⟨qh, hqh⟩ := Kd.R_head HXE.out.2.2.2.2.2.1
         subst hqh
         simp [Addr.add] at h0 h1 h2 h3 h4
         have p16 := eq_true hidx
         have c16 : decide ((16 : Int) < (p.hs.length : Int)) = true := decide_eq_true hidx
         clear e2 e3 hth hidx
         go_wp2_with fail
         refine (pendulumref06_spot.calls 1 (th.f0) (th.f1) (th.f2) (th.f3) (th.f4) _ _ _ _ _ _ rfl).mono ?_
         rintro e wG ⟨vv, rfl, hR, hb⟩
         obtain ⟨Av, cv, rfl, hcv, hCv⟩ := Kd.R_reads hR
         have HRG := Aside0.mk hR
         have HG0G := Aside0.mk (blk_below HG0F.out hb)
         have HG1G := Aside0.mk (blk_below HG1F.out hb)
         have HBG := Aside0.mk (below_step HBF.out hb)
         have HSZ := Aside0.mk (Nat.le_trans HBF.out.size (Nat.le_refl _))
         have hl2 := blk_lt HG1F.out
         clear hR hb hCv
         have fz0 : wG.frozen? ⟨gs, 0, none⟩ = false := blk_frozen HG0G.out 0
         have z0 : wG.cell? ⟨gs, 0, none⟩ = some (.int .i64 0) := blk_cell HG0G.out 0
         have fz1 : wG.frozen? ⟨gs, 1, none⟩ = false := blk_frozen HG0G.out 1
         have z1 : wG.cell? ⟨gs, 1, none⟩ = some (.slice none 0 0) := blk_cell HG0G.out 1
         have gz0 : wG.frozen? ⟨gs + 1, 0, none⟩ = false := blk_frozen HG1G.out 0
         have vz0 : wG.cell? ⟨gs + 1, 0, none⟩ = some (.int .i64 0) := blk_cell HG1G.out 0
         have gz1 : wG.frozen? ⟨gs + 1, 1, none⟩ = false := blk_frozen HG1G.out 1
         have vz1 : wG.cell? ⟨gs + 1, 1, none⟩ = some (.int .i64 0) := blk_cell HG1G.out 1
         have gz2 : wG.frozen? ⟨gs + 1, 2, none⟩ = false := blk_frozen HG1G.out 2
         have vz2 : wG.cell? ⟨gs + 1, 2, none⟩ = some (.int .i64 0) := blk_cell HG1G.out 2
         have n3 : gs + 1 ≠ gs := by omega
         go_wp2
         have hso := set_out HG0G.out HG1G.out (.int .i64 0) (.slice Av 0 cv) (.int .i64 1) (.int .i64 (th.f3)) (.int .i64 (th.f4))
         refine bodyPost_ret (results_cc rfl _ _ gs (gs + 1) _ _ #[.int .i64 0, .slice Av 0 cv] #[.int .i64 1, .int .i64 (th.f3), .int .i64 (th.f4)] (0, 0) (0, 0) _ _ rfl hso.1 Tryd.underlying26 rfl (by kernel_rfl) rfl hso.2 Tryd.underlying29 rfl (by kernel_rfl)) rfl ?_
         rw [HPE3.out]
         refine ⟨_, rfl, Kd.R_lower (set_rows (Kd.R_mono (Kd.R_bound HRG.out) (fun k hk => ?_)) _ _ _ _ _) HSZ.out, set_below HBG.out (by rw [HGS.out]; exact Nat.le_refl _) _ _ _ _ _⟩
         have h1 := hk.2.1
         omega
       ·have b7 : (w1 == 2) = false := beq_eq_false_iff_ne.2 e2
        have hidx : 0 ≤ at1 ∧ at1 < (p.hs.length : Int) := by
         have hh := HK.out.2.2.2.2.2.1
         have hr := whyS_range p.b p.ts
         rw [HWH.out] at hr
         have g0 := E0.out
         have g1 := E1.out
         rcases hr with h | h | ⟨h, _⟩ | ⟨_, h1, h2⟩
         ·exact absurd h g0
         ·exact absurd h g1
         ·exact absurd h e2
         ·exact ⟨h1, by rw [hh]; exact h2⟩
        have HPE3 : Aside0 (parseF l0 = (0, [], 1, (rd_T46 p.hs at1).f3, (rd_T46 p.hs at1).f4)) := ⟨by rw [HPE2.out]; simp only [if_neg E0.out, if_neg E1.out, if_neg e2]; rfl⟩
        obtain ⟨ah, e9, h0, h1, h2, h3, h4⟩ := at_T46 HHF.out at1 hidx.1 hidx.2
        subst e9
        obtain ⟨th, hth⟩ : ∃ th, rd_T46 p.hs at1 = th := ⟨_, rfl⟩
        rw [hth] at h0 h1 h2 h3 h4 HPE3
        have p16 := eq_true hidx.1
        have p17 := eq_true hidx.2
        have c16 : decide (0 ≤ at1) = true := decide_eq_true hidx.1
        have c17 : decide (at1 < (p.hs.length : Int)) = true := decide_eq_true hidx.2
        clear e2 hth hidx
        go_wp2_with fail
        refine (pendulumref06_spot.calls 1 (th.f0) (th.f1) (th.f2) (th.f3) (th.f4) _ _ _ _ _ _ rfl).mono ?_
        rintro e wG ⟨vv, rfl, hR, hb⟩
        obtain ⟨Av, cv, rfl, hcv, hCv⟩ := Kd.R_reads hR
        have HRG := Aside0.mk hR
        have HG0G := Aside0.mk (blk_below HG0F.out hb)
        have HG1G := Aside0.mk (blk_below HG1F.out hb)
        have HBG := Aside0.mk (below_step HBF.out hb)
        have HSZ := Aside0.mk (Nat.le_trans HBF.out.size (Nat.le_refl _))
        have hl2 := blk_lt HG1F.out
        clear hR hb hCv
        have fz0 : wG.frozen? ⟨gs, 0, none⟩ = false := blk_frozen HG0G.out 0
        have z0 : wG.cell? ⟨gs, 0, none⟩ = some (.int .i64 0) := blk_cell HG0G.out 0
        have fz1 : wG.frozen? ⟨gs, 1, none⟩ = false := blk_frozen HG0G.out 1
        have z1 : wG.cell? ⟨gs, 1, none⟩ = some (.slice none 0 0) := blk_cell HG0G.out 1
        have gz0 : wG.frozen? ⟨gs + 1, 0, none⟩ = false := blk_frozen HG1G.out 0
        have vz0 : wG.cell? ⟨gs + 1, 0, none⟩ = some (.int .i64 0) := blk_cell HG1G.out 0
        have gz1 : wG.frozen? ⟨gs + 1, 1, none⟩ = false := blk_frozen HG1G.out 1
        have vz1 : wG.cell? ⟨gs + 1, 1, none⟩ = some (.int .i64 0) := blk_cell HG1G.out 1
        have gz2 : wG.frozen? ⟨gs + 1, 2, none⟩ = false := blk_frozen HG1G.out 2
        have vz2 : wG.cell? ⟨gs + 1, 2, none⟩ = some (.int .i64 0) := blk_cell HG1G.out 2
        have n3 : gs + 1 ≠ gs := by omega
        go_wp2
        have hso := set_out HG0G.out HG1G.out (.int .i64 0) (.slice Av 0 cv) (.int .i64 1) (.int .i64 (th.f3)) (.int .i64 (th.f4))
        refine bodyPost_ret (results_cc rfl _ _ gs (gs + 1) _ _ #[.int .i64 0, .slice Av 0 cv] #[.int .i64 1, .int .i64 (th.f3), .int .i64 (th.f4)] (0, 0) (0, 0) _ _ rfl hso.1 Tryd.underlying26 rfl (by kernel_rfl) rfl hso.2 Tryd.underlying29 rfl (by kernel_rfl)) rfl ?_
        rw [HPE3.out]
        refine ⟨_, rfl, Kd.R_lower (set_rows (Kd.R_mono (Kd.R_bound HRG.out) (fun k hk => ?_)) _ _ _ _ _) HSZ.out, set_below HBG.out (by rw [HGS.out]; exact Nat.le_refl _) _ _ _ _ _⟩
        have h1 := hk.2.1
        omega
    ·by_cases hn0 : n = 0
     ·-- ARM cB
      -- BEGIN caseB
      obtain rfl : n = 0 := hn0
      have HNA := Aside0.mk ha
      by_cases hl1 : lineLen p.l = 1
      ·-- ARM c1
       have h3n : t.f0 ≠ 3 := fun h => ha ⟨hl1, h⟩
       have b1 : ((L.length : Int) == 1) = true := beq_iff_eq.2 (by have := HLN.out; omega)
       have b2 : (t.f0 == 3) = false := beq_eq_false_iff_ne.2 h3n
       have HL1 := Aside0.mk hl1
       clear hl1 h3n ha hb2
       go_wp2_with fail
       refine (pendulumref06_shape.calls 40 (some ad) c L (some ⟨wE.heap.size + 1 + 1, 0, none⟩) 3 kindB (encS (firstBad csB p.l) 0) _ (Kd.C_alloc (Kd.C_alloc (Kd.C_alloc HCL.out _) _) _) (by have := HXE.out.2.2.1; have := HLM.out; omega) (C_lit_i64 _ _ (by simp) kindB (by decide) _ _ rfl) (by decide) (by rw [← HLD.out]; exact shape_B p.l HK.out.2.1 HP6.out)).mono ?_
       rintro e wF ⟨rfl, hb⟩
       have hbF : Below wE.heap.size wE wF := below_step (below_alloc (below_alloc (below_alloc (Below.refl _ _) _) _) _) hb.below
       have HXF := Aside0.mk (HXE.out.below hbF)
       have HCW := Aside0.mk HK.out.old0
       have HCLW : Aside0 (Kd.C k46 w0 (some ad) L.length L) := ⟨by rw [← HLD.out, show (p.l.take (lineLen p.l)).length = lineLen p.l by rw [HLD.out]; exact HLN.out]; have h := Kd.C_take HCW.out (lineLen_le2 p.l); rwa [show (p.l.take (lineLen p.l)).length = lineLen p.l by rw [HLD.out]; exact HLN.out] at h⟩
       have HLF : Aside0 (wF.heap[wE.heap.size]? = some (.cells (tokCs t) 46 (0, 0))) := ⟨blk_below (blk_alloc (blk_alloc (blk_new wE _) _) _) hb.below⟩
       have HBF0 : Aside0 (Below w0.heap.size w0 wF) := ⟨HXF.out.2.2.2.2.2.2⟩
       have HBF : Aside0 (Below W.heap.size W wF) := ⟨below_step HBW.out HBF0.out⟩
       have HG0F := Aside0.mk (blk_below HG0B.out HBF0.out)
       have HG1F := Aside0.mk (blk_below HG1B.out HBF0.out)
       have hgE := blk_lt HXE.out.2.1
       have HRH : Aside0 (Kd.R k46 46 wF w0.heap.size (fun k => k ≠ g ∧ k ≠ g + 1 ∧ k ≠ wE.heap.size) u8 p.hs) := ⟨Kd.R_below (Kd.R_mono (Kd.R_bound HXE.out.2.2.2.2.2.1) (fun k hk => by have h1 := hk.2.1; have h2 := hk.1; have h3 := HG.out; simp only [h3] at h1 h2; refine ⟨?_, ?_, ?_⟩ <;> first | exact h2.1 | exact h2.2 | omega)) hbF⟩
       have HRT : Aside0 (Kd.R k40 40 wF w0.heap.size (fun k => k ≠ g ∧ k ≠ g + 1 ∧ k ≠ wE.heap.size) vts p.ts) := ⟨Kd.R_below (Kd.R_mono (Kd.R_bound HXE.out.2.2.2.2.1) (fun k hk => by have h1 := hk.2.1; have h2 := hk.1; have h3 := HG.out; simp only [h3] at h1 h2; refine ⟨?_, ?_, ?_⟩ <;> first | exact h2.1 | exact h2.2 | omega)) hbF⟩
       obtain ⟨ge, hge⟩ : ∃ ge, wE.heap.size = ge := ⟨_, rfl⟩
       rw [hge] at HLF HRH HRT hgE ⊢
       clear hb hbF hge y0 y1 y2 y3 y4 xt
       cases hfb : firstBad csB p.l with
       | some jb =>
        have hjb := firstBad_line csB p.l HK.out.2.1 csB_in jb hfb
        have hjL : jb < L.length := by have := HLN.out; omega
        obtain ⟨q, hq⟩ : ∃ q : Int, ((jb : Nat) : Int) = q := ⟨_, rfl⟩
        rw [show encS (some jb) 0 = q by show (((0 + jb : Nat)) : Int) = q; rw [Nat.zero_add]; exact hq]
        have hq0 : 0 ≤ q := by omega
        have hq1 : q < (L.length : Int) := by omega
        have HCLF := Aside0.mk (Kd.C_below HCLW.out HBF0.out)
        obtain ⟨ad9, e9, h0, h1, h2, h3, h4⟩ := at_T46 HCLF.out q hq0 hq1
        cases e9
        have hrd : rd_T46 L q = p.l.getD jb z46 := by
         unfold rd_T46
         rw [show q.toNat = jb by omega, ← HLD.out, List.getD_eq_getElem?_getD, List.getD_eq_getElem?_getD, List.getElem?_take, if_pos hjb]
        have HPE3 : Aside0 (parseF l0 = (0, [], 5, (rd_T46 L q).f3, (rd_T46 L q).f4)) := ⟨by
         obtain ⟨he, hE, h4, hl, hg, hh, hs, hn, hc⟩ := HK.out
         obtain ⟨k1, rfl⟩ : ∃ k1, gk = k1 + 1 := ⟨gk - 1, by omega⟩
         rw [← hg, refGo, hrd]
         simp only []
         rw [if_neg (fun hh => hh.2.elim (fun h3 => HNA.out ⟨hh.1, by rw [HT.out]; exact h3⟩) (fun h => absurd h (Nat.lt_irrefl 0)))]
         simp only [if_true, hfb]⟩
        obtain ⟨th, hth⟩ : ∃ th, rd_T46 L q = th := ⟨_, rfl⟩
        rw [hth] at h0 h1 h2 h3 h4 HPE3
        have p16 := eq_true hq0
        have p17 := eq_true hq1
        have c16 : decide (0 ≤ q) = true := decide_eq_true hq0
        have c17 : decide (q < (L.length : Int)) = true := decide_eq_true hq1
        clear hth hrd hq0 hq1 hq hfb hjb hjL
        go_wp2_with fail
        refine (pendulumref06_spot.calls 5 (th.f0) (th.f1) (th.f2) (th.f3) (th.f4) _ _ _ _ _ _ rfl).mono ?_
        rintro e wG ⟨vv, rfl, hR, hb⟩
        obtain ⟨Av, cv, rfl, hcv, hCv⟩ := Kd.R_reads hR
        have HRG := Aside0.mk hR
        have HG0G := Aside0.mk (blk_below HG0F.out hb)
        have HG1G := Aside0.mk (blk_below HG1F.out hb)
        have HBG := Aside0.mk (below_step HBF.out hb)
        have HSZ := Aside0.mk (Nat.le_trans HBF.out.size (Nat.le_refl _))
        have hl2 := blk_lt HG1F.out
        clear hR hb hCv
        have fz0 : wG.frozen? ⟨gs, 0, none⟩ = false := blk_frozen HG0G.out 0
        have z0 : wG.cell? ⟨gs, 0, none⟩ = some (.int .i64 0) := blk_cell HG0G.out 0
        have fz1 : wG.frozen? ⟨gs, 1, none⟩ = false := blk_frozen HG0G.out 1
        have z1 : wG.cell? ⟨gs, 1, none⟩ = some (.slice none 0 0) := blk_cell HG0G.out 1
        have gz0 : wG.frozen? ⟨gs + 1, 0, none⟩ = false := blk_frozen HG1G.out 0
        have vz0 : wG.cell? ⟨gs + 1, 0, none⟩ = some (.int .i64 0) := blk_cell HG1G.out 0
        have gz1 : wG.frozen? ⟨gs + 1, 1, none⟩ = false := blk_frozen HG1G.out 1
        have vz1 : wG.cell? ⟨gs + 1, 1, none⟩ = some (.int .i64 0) := blk_cell HG1G.out 1
        have gz2 : wG.frozen? ⟨gs + 1, 2, none⟩ = false := blk_frozen HG1G.out 2
        have vz2 : wG.cell? ⟨gs + 1, 2, none⟩ = some (.int .i64 0) := blk_cell HG1G.out 2
        have n3 : gs + 1 ≠ gs := by omega
        go_wp2
        have hso := set_out HG0G.out HG1G.out (.int .i64 0) (.slice Av 0 cv) (.int .i64 5) (.int .i64 (th.f3)) (.int .i64 (th.f4))
        refine bodyPost_ret (results_cc rfl _ _ gs (gs + 1) _ _ #[.int .i64 0, .slice Av 0 cv] #[.int .i64 5, .int .i64 (th.f3), .int .i64 (th.f4)] (0, 0) (0, 0) _ _ rfl hso.1 Tryd.underlying26 rfl (by kernel_rfl) rfl hso.2 Tryd.underlying29 rfl (by kernel_rfl)) rfl ?_
        rw [HPE3.out]
        refine ⟨_, rfl, Kd.R_lower (set_rows (Kd.R_mono (Kd.R_bound HRG.out) (fun k hk => ?_)) _ _ _ _ _) HSZ.out, set_below HBG.out (by rw [HGS.out]; exact Nat.le_refl _) _ _ _ _ _⟩
        have h1 := hk.2.1
        omega
       | none =>
        have h3 : lineLen p.l = 3 := (good_rest qB p.l HK.out.2.1 (by decide) hfb).1
        have h1 := HL1.out
        omega
      ·-- ARM c2
       have b1 : ((L.length : Int) == 1) = false := beq_eq_false_iff_ne.2 (by have := HLN.out; omega)
       have HL1 := Aside0.mk hl1
       clear hl1 ha hb2
       go_wp2_with fail
       refine (pendulumref06_shape.calls 40 (some ad) c L (some ⟨wE.heap.size + 1 + 1, 0, none⟩) 3 kindB (encS (firstBad csB p.l) 0) _ (Kd.C_alloc (Kd.C_alloc (Kd.C_alloc HCL.out _) _) _) (by have := HXE.out.2.2.1; have := HLM.out; omega) (C_lit_i64 _ _ (by simp) kindB (by decide) _ _ rfl) (by decide) (by rw [← HLD.out]; exact shape_B p.l HK.out.2.1 HP6.out)).mono ?_
       rintro e wF ⟨rfl, hb⟩
       have hbF : Below wE.heap.size wE wF := below_step (below_alloc (below_alloc (below_alloc (Below.refl _ _) _) _) _) hb.below
       have HXF := Aside0.mk (HXE.out.below hbF)
       have HCW := Aside0.mk HK.out.old0
       have HCLW : Aside0 (Kd.C k46 w0 (some ad) L.length L) := ⟨by rw [← HLD.out, show (p.l.take (lineLen p.l)).length = lineLen p.l by rw [HLD.out]; exact HLN.out]; have h := Kd.C_take HCW.out (lineLen_le2 p.l); rwa [show (p.l.take (lineLen p.l)).length = lineLen p.l by rw [HLD.out]; exact HLN.out] at h⟩
       have HLF : Aside0 (wF.heap[wE.heap.size]? = some (.cells (tokCs t) 46 (0, 0))) := ⟨blk_below (blk_alloc (blk_alloc (blk_new wE _) _) _) hb.below⟩
       have HBF0 : Aside0 (Below w0.heap.size w0 wF) := ⟨HXF.out.2.2.2.2.2.2⟩
       have HBF : Aside0 (Below W.heap.size W wF) := ⟨below_step HBW.out HBF0.out⟩
       have HG0F := Aside0.mk (blk_below HG0B.out HBF0.out)
       have HG1F := Aside0.mk (blk_below HG1B.out HBF0.out)
       have hgE := blk_lt HXE.out.2.1
       have HRH : Aside0 (Kd.R k46 46 wF w0.heap.size (fun k => k ≠ g ∧ k ≠ g + 1 ∧ k ≠ wE.heap.size) u8 p.hs) := ⟨Kd.R_below (Kd.R_mono (Kd.R_bound HXE.out.2.2.2.2.2.1) (fun k hk => by have h1 := hk.2.1; have h2 := hk.1; have h3 := HG.out; simp only [h3] at h1 h2; refine ⟨?_, ?_, ?_⟩ <;> first | exact h2.1 | exact h2.2 | omega)) hbF⟩
       have HRT : Aside0 (Kd.R k40 40 wF w0.heap.size (fun k => k ≠ g ∧ k ≠ g + 1 ∧ k ≠ wE.heap.size) vts p.ts) := ⟨Kd.R_below (Kd.R_mono (Kd.R_bound HXE.out.2.2.2.2.1) (fun k hk => by have h1 := hk.2.1; have h2 := hk.1; have h3 := HG.out; simp only [h3] at h1 h2; refine ⟨?_, ?_, ?_⟩ <;> first | exact h2.1 | exact h2.2 | omega)) hbF⟩
       obtain ⟨ge, hge⟩ : ∃ ge, wE.heap.size = ge := ⟨_, rfl⟩
       rw [hge] at HLF HRH HRT hgE ⊢
       clear hb hbF hge y0 y1 y2 y3 y4 xt
       cases hfb : firstBad csB p.l with
       | some jb =>
        have hjb := firstBad_line csB p.l HK.out.2.1 csB_in jb hfb
        have hjL : jb < L.length := by have := HLN.out; omega
        obtain ⟨q, hq⟩ : ∃ q : Int, ((jb : Nat) : Int) = q := ⟨_, rfl⟩
        rw [show encS (some jb) 0 = q by show (((0 + jb : Nat)) : Int) = q; rw [Nat.zero_add]; exact hq]
        have hq0 : 0 ≤ q := by omega
        have hq1 : q < (L.length : Int) := by omega
        have HCLF := Aside0.mk (Kd.C_below HCLW.out HBF0.out)
        obtain ⟨ad9, e9, h0, h1, h2, h3, h4⟩ := at_T46 HCLF.out q hq0 hq1
        cases e9
        have hrd : rd_T46 L q = p.l.getD jb z46 := by
         unfold rd_T46
         rw [show q.toNat = jb by omega, ← HLD.out, List.getD_eq_getElem?_getD, List.getD_eq_getElem?_getD, List.getElem?_take, if_pos hjb]
        have HPE3 : Aside0 (parseF l0 = (0, [], 5, (rd_T46 L q).f3, (rd_T46 L q).f4)) := ⟨by
         obtain ⟨he, hE, h4, hl, hg, hh, hs, hn, hc⟩ := HK.out
         obtain ⟨k1, rfl⟩ : ∃ k1, gk = k1 + 1 := ⟨gk - 1, by omega⟩
         rw [← hg, refGo, hrd]
         simp only []
         rw [if_neg (fun hh => hh.2.elim (fun h3 => HNA.out ⟨hh.1, by rw [HT.out]; exact h3⟩) (fun h => absurd h (Nat.lt_irrefl 0)))]
         simp only [if_true, hfb]⟩
        obtain ⟨th, hth⟩ : ∃ th, rd_T46 L q = th := ⟨_, rfl⟩
        rw [hth] at h0 h1 h2 h3 h4 HPE3
        have p16 := eq_true hq0
        have p17 := eq_true hq1
        have c16 : decide (0 ≤ q) = true := decide_eq_true hq0
        have c17 : decide (q < (L.length : Int)) = true := decide_eq_true hq1
        clear hth hrd hq0 hq1 hq hfb hjb hjL
        go_wp2_with fail
        refine (pendulumref06_spot.calls 5 (th.f0) (th.f1) (th.f2) (th.f3) (th.f4) _ _ _ _ _ _ rfl).mono ?_
        rintro e wG ⟨vv, rfl, hR, hb⟩
        obtain ⟨Av, cv, rfl, hcv, hCv⟩ := Kd.R_reads hR
        have HRG := Aside0.mk hR
        have HG0G := Aside0.mk (blk_below HG0F.out hb)
        have HG1G := Aside0.mk (blk_below HG1F.out hb)
        have HBG := Aside0.mk (below_step HBF.out hb)
        have HSZ := Aside0.mk (Nat.le_trans HBF.out.size (Nat.le_refl _))
        have hl2 := blk_lt HG1F.out
        clear hR hb hCv
        have fz0 : wG.frozen? ⟨gs, 0, none⟩ = false := blk_frozen HG0G.out 0
        have z0 : wG.cell? ⟨gs, 0, none⟩ = some (.int .i64 0) := blk_cell HG0G.out 0
        have fz1 : wG.frozen? ⟨gs, 1, none⟩ = false := blk_frozen HG0G.out 1
        have z1 : wG.cell? ⟨gs, 1, none⟩ = some (.slice none 0 0) := blk_cell HG0G.out 1
        have gz0 : wG.frozen? ⟨gs + 1, 0, none⟩ = false := blk_frozen HG1G.out 0
        have vz0 : wG.cell? ⟨gs + 1, 0, none⟩ = some (.int .i64 0) := blk_cell HG1G.out 0
        have gz1 : wG.frozen? ⟨gs + 1, 1, none⟩ = false := blk_frozen HG1G.out 1
        have vz1 : wG.cell? ⟨gs + 1, 1, none⟩ = some (.int .i64 0) := blk_cell HG1G.out 1
        have gz2 : wG.frozen? ⟨gs + 1, 2, none⟩ = false := blk_frozen HG1G.out 2
        have vz2 : wG.cell? ⟨gs + 1, 2, none⟩ = some (.int .i64 0) := blk_cell HG1G.out 2
        have n3 : gs + 1 ≠ gs := by omega
        go_wp2
        have hso := set_out HG0G.out HG1G.out (.int .i64 0) (.slice Av 0 cv) (.int .i64 5) (.int .i64 (th.f3)) (.int .i64 (th.f4))
        refine bodyPost_ret (results_cc rfl _ _ gs (gs + 1) _ _ #[.int .i64 0, .slice Av 0 cv] #[.int .i64 5, .int .i64 (th.f3), .int .i64 (th.f4)] (0, 0) (0, 0) _ _ rfl hso.1 Tryd.underlying26 rfl (by kernel_rfl) rfl hso.2 Tryd.underlying29 rfl (by kernel_rfl)) rfl ?_
        rw [HPE3.out]
        refine ⟨_, rfl, Kd.R_lower (set_rows (Kd.R_mono (Kd.R_bound HRG.out) (fun k hk => ?_)) _ _ _ _ _) HSZ.out, set_below HBG.out (by rw [HGS.out]; exact Nat.le_refl _) _ _ _ _ _⟩
        have h1 := hk.2.1
        omega
       | none =>
        have HFB := Aside0.mk hfb
        have hl3 : lineLen p.l = 3 := (good_rest qB p.l HK.out.2.1 (by decide) hfb).1
        have hL3 : L.length = 3 := by have := HLN.out; omega
        rw [show encS none 0 = (-1 : Int) from rfl]
        have HCLF := Aside0.mk (Kd.C_below HCLW.out HBF0.out)
        obtain ⟨ad1, e1, h0, h1, h2, h3, h4⟩ := at_T46 HCLF.out 1 (by decide) (by omega)
        cases e1
        obtain ⟨x1, hx1⟩ : ∃ x1, rd_T46 L 1 = x1 := ⟨_, rfl⟩
        rw [hx1] at h0 h1 h2 h3 h4
        have HX1 : Aside0 (p.l.getD 1 z46 = x1) := ⟨by rw [← hx1]; unfold rd_T46; rw [← HLD.out, hl3, List.getD_eq_getElem?_getD, List.getD_eq_getElem?_getD, List.getElem?_take]; rfl⟩
        have h0 : wF.cell? ⟨ad.block, ad.off + 5, none⟩ = some (.int .i64 x1.f0) := h0
        have h1 : wF.cell? ⟨ad.block, ad.off + 5 + 1, none⟩ = some (.string x1.f1) := h1
        have h2 : wF.cell? ⟨ad.block, ad.off + 5 + 2, none⟩ = some (.int .i64 x1.f2) := h2
        have h3 : wF.cell? ⟨ad.block, ad.off + 5 + 3, none⟩ = some (.int .i64 x1.f3) := h3
        have h4 : wF.cell? ⟨ad.block, ad.off + 5 + 4, none⟩ = some (.int .i64 x1.f4) := h4
        have HL13 : Aside0 ((L.length : Int) = 3 ∧ L.length = 3) := ⟨⟨by omega, hL3⟩⟩
        have hLi : (L.length : Int) = 3 := by omega
        have hab := old_block HCLW.out HPO.out
        have HGE : Aside0 (ge ≠ g ∧ ge ≠ g + 1 ∧ w0.heap.size ≤ g) := ⟨⟨by have := HG.out; omega, by have := HG.out; omega, by have := HG.out; omega⟩⟩
        have na : ad.block ≠ g := by have := HG.out; omega
        have nb : ad.block ≠ g + 1 := by have := HG.out; omega
        have n3 : g + 1 ≠ g := by omega
        have HYF : Aside0 (RefY w0 wF g ge t vts u8 p) := ⟨by have h1 := HXF.out.1; have h2 := HXF.out.2.1; rw [HG.out] at h1 h2; exact ⟨h1, h2, HLF.out, HRT.out, HRH.out, HBF0.out⟩⟩
        have fz0 : wF.frozen? ⟨g, 0, none⟩ = false := blk_frozen HYF.out.1 0
        have z0 : wF.cell? ⟨g, 0, none⟩ = some (.int .i64 p.b) := blk_cell HYF.out.1 0
        have gz0 : wF.frozen? ⟨g + 1, 0, none⟩ = false := blk_frozen HYF.out.2.1 0
        have vz0 : wF.cell? ⟨g + 1, 0, none⟩ = some (.int .i64 p.bt.f0) := blk_cell HYF.out.2.1 0
        have gz1 : wF.frozen? ⟨g + 1, 1, none⟩ = false := blk_frozen HYF.out.2.1 1
        have vz1 : wF.cell? ⟨g + 1, 1, none⟩ = some (.string p.bt.f1) := blk_cell HYF.out.2.1 1
        have gz2 : wF.frozen? ⟨g + 1, 2, none⟩ = false := blk_frozen HYF.out.2.1 2
        have vz2 : wF.cell? ⟨g + 1, 2, none⟩ = some (.int .i64 p.bt.f2) := blk_cell HYF.out.2.1 2
        have gz3 : wF.frozen? ⟨g + 1, 3, none⟩ = false := blk_frozen HYF.out.2.1 3
        have vz3 : wF.cell? ⟨g + 1, 3, none⟩ = some (.int .i64 p.bt.f3) := blk_cell HYF.out.2.1 3
        have gz4 : wF.frozen? ⟨g + 1, 4, none⟩ = false := blk_frozen HYF.out.2.1 4
        have vz4 : wF.cell? ⟨g + 1, 4, none⟩ = some (.int .i64 p.bt.f4) := blk_cell HYF.out.2.1 4
        obtain ⟨wZ, hwZ⟩ : ∃ wZ, wZ = ((((((wF.setCell ⟨g, 0, none⟩ (.int .i64 x1.f2)).setCell ⟨g + 1, 0, none⟩ (.int .i64 x1.f0)).setCell ⟨g + 1, 1, none⟩ (.string x1.f1)).setCell ⟨g + 1, 2, none⟩ (.int .i64 x1.f2)).setCell ⟨g + 1, 3, none⟩ (.int .i64 x1.f3)).setCell ⟨g + 1, 4, none⟩ (.int .i64 x1.f4)) := ⟨_, rfl⟩
        have HY : Aside0 (RefY w0 wZ g ge t vts u8 { p with b := x1.f2, bt := x1 }) := ⟨by rw [hwZ]; exact HYF.out.first HGE.out.2.2 HGE.out.1 HGE.out.2.1 x1⟩
        have HZS : Aside0 (wZ.heap.size = wF.heap.size) := ⟨by rw [hwZ]; simp [World.setCell]⟩
        have HWZ := Aside0.mk hwZ
        have s0 : wF.cell? ⟨ge, 0, none⟩ = some (.int .i64 t.f0) := blk_cell HLF.out 0
        have s1 : wF.cell? ⟨ge, 1, none⟩ = some (.string t.f1) := blk_cell HLF.out 1
        have s2 : wF.cell? ⟨ge, 2, none⟩ = some (.int .i64 t.f2) := blk_cell HLF.out 2
        have s3 : wF.cell? ⟨ge, 3, none⟩ = some (.int .i64 t.f3) := blk_cell HLF.out 3
        have s4 : wF.cell? ⟨ge, 4, none⟩ = some (.int .i64 t.f4) := blk_cell HLF.out 4
        have n4 : ge ≠ g := HGE.out.1
        have n5 : ge ≠ g + 1 := HGE.out.2.1
        clear hfb hl3 hx1 hab hL3 hwZ
        cases gk with
        | zero => exact absurd HK.out.2.2.2.1 (Nat.not_lt_zero _)
        | succ k1 =>
        have HK1 : Aside0 (∀ (A' : Option Addr) (l' : List TOK), _ → RefK w0 A' k1 { p with l := l', b := x1.f2, bt := x1 } 1 (parseF l0)) := ⟨fun A' l' h => by have h2 := HK.out.first (A' := A') HFB.out l' h; rw [HX1.out] at h2; exact h2⟩
        by_cases h44 : t.f0 = 4
        ·have b9 : (t.f0 == 4) = true := beq_iff_eq.2 h44
         have H44 := Aside0.mk h44
         clear h44
         go_wp2_with fail
         go_roundg k1
         case measure => omega
         case rel =>
          rw [← HWZ.out]
          refine ⟨some ⟨wF.heap.size, 0, none⟩, 1, _, _, _, ?_, ?_, ⟨(HY.out.alloc _).back HG.out [t] (C_lit_tok wZ _ HZS.out t) (Nat.le_refl 1)⟩, ⟨HK1.out _ [t] (.inl (by have h4 := H44.out; have hT := HT.out; rw [← hT]; exact ⟨h4, rfl⟩))⟩⟩
          ·rfl
          ·rfl
        ·have b9 : (t.f0 == 4) = false := beq_eq_false_iff_ne.2 h44
         have H44 := Aside0.mk h44
         clear h44
         go_wp2_with fail
         go_roundg k1
         case measure => omega
         case rel =>
          rw [← HWZ.out]
          have hd : lineLen p.l = L.length := HLN.out.symm
          refine ⟨A4, c - 3, _, _, _, ?_, ?_, ⟨HY.out.back HG.out (p.l.drop L.length) (Kd.C_below (HCT0.out HCW.out) HY.out.2.2.2.2.2) (by have h1 := HXE.out.2.2.1; have h2 := HL13.out.2; rw [List.length_drop]; omega)⟩, ⟨HK1.out _ (p.l.drop L.length) (.inr (by have h4 := H44.out; have hT := HT.out; rw [← hT, hd]; exact ⟨h4, rfl, HCT0.out⟩))⟩⟩
          ·have h2 := HL13.out.2; show _ = Value.slice A4 (p.l.drop L.length).length _; rw [List.length_drop, h2]
          ·rfl
      -- END caseB
     ·have hl1 : lineLen p.l ≠ 1 := fun h => hb2 ⟨h, by omega⟩
      have b1 : ((L.length : Int) == 1) = false := beq_eq_false_iff_ne.2 (by have := HLN.out; omega)
      have b5 : ((n : Int) == 0) = false := beq_eq_false_iff_ne.2 (by omega)
      have hw2 : IntKind.i64.wrap ((n : Int) + 1) = ((n + 1 : Nat) : Int) := by
       have := HK.out.2.2.2.2.2.2.2.1
       exact (i64_w _).trans (wrap_ok1 (by omega) (by omega))
      have HL1 := Aside0.mk hl1
      have HN0 := Aside0.mk hn0
      clear hl1 hn0 ha hb2
      go_wp2_with fail
      refine (pendulumref06_shape.calls 40 (some ad) c L (some ⟨wE.heap.size + 1, 0, none⟩) 13 kindT (encS (firstBad csT p.l) 0) _ (Kd.C_alloc (Kd.C_alloc HCL.out _) _) (by have := HXE.out.2.2.1; have := HLM.out; omega) ?_ (by decide) (by rw [← HLD.out]; exact shape_T p.l HK.out.2.1 HP6.out)).mono ?_
      ·exact C_lit_i64 _ _ (by simp) kindT (by decide) _ _ rfl
      rintro e wF ⟨rfl, hb⟩
      have hbF : Below wE.heap.size wE wF := below_step (below_alloc (below_alloc (Below.refl _ _) _) _) hb.below
      have HXF := Aside0.mk (HXE.out.below hbF)
      have HCW := Aside0.mk (HK.out.old HL1.out)
      have HCLW : Aside0 (Kd.C k46 w0 (some ad) L.length L) := ⟨by rw [← HLD.out, show (p.l.take (lineLen p.l)).length = lineLen p.l by rw [HLD.out]; exact HLN.out]; have h := Kd.C_take HCW.out (lineLen_le2 p.l); rwa [show (p.l.take (lineLen p.l)).length = lineLen p.l by rw [HLD.out]; exact HLN.out] at h⟩
      have HLF : Aside0 (wF.heap[wE.heap.size]? = some (.cells (tokCs t) 46 (0, 0))) := ⟨blk_below (blk_alloc (blk_new wE _) _) hb.below⟩
      have HBF0 : Aside0 (Below w0.heap.size w0 wF) := ⟨HXF.out.2.2.2.2.2.2⟩
      have HBF : Aside0 (Below W.heap.size W wF) := ⟨below_step HBW.out HBF0.out⟩
      have HG0F := Aside0.mk (blk_below HG0B.out HBF0.out)
      have HG1F := Aside0.mk (blk_below HG1B.out HBF0.out)
      have hgE := blk_lt HXE.out.2.1
      have hgF := blk_lt HLF.out
      have HRH : Aside0 (Kd.R k46 46 wF w0.heap.size (fun k => k ≠ g ∧ k ≠ g + 1 ∧ k ≠ wE.heap.size) u8 p.hs) := ⟨Kd.R_below (Kd.R_mono (Kd.R_bound HXE.out.2.2.2.2.2.1) (fun k hk => by have h1 := hk.2.1; have h2 := hk.1; have h3 := HG.out; simp only [h3] at h1 h2; refine ⟨?_, ?_, ?_⟩ <;> first | exact h2.1 | exact h2.2 | omega)) hbF⟩
      have HRT : Aside0 (Kd.R k40 40 wF w0.heap.size (fun k => k ≠ g ∧ k ≠ g + 1 ∧ k ≠ wE.heap.size) vts p.ts) := ⟨Kd.R_below (Kd.R_mono (Kd.R_bound HXE.out.2.2.2.2.1) (fun k hk => by have h1 := hk.2.1; have h2 := hk.1; have h3 := HG.out; simp only [h3] at h1 h2; refine ⟨?_, ?_, ?_⟩ <;> first | exact h2.1 | exact h2.2 | omega)) hbF⟩
      obtain ⟨ge, hge⟩ : ∃ ge, wE.heap.size = ge := ⟨_, rfl⟩
      rw [hge] at HLF HRH HRT hgE hgF ⊢
      obtain ⟨m, hm⟩ : ∃ m : Int, ((n + 1 : Nat) : Int) = m := ⟨_, rfl⟩
      have HM := Aside0.mk hm
      try rw [show ((n : Int) + 1) = m by rw [← hm]; rfl]
      clear hb hbF hge hw2 y0 y1 y2 y3 y4 xt b5 hm
      cases hfb : firstBad csT p.l with
      | some jb =>
       ·-- ARM cbad
        -- BEGIN cbadT
        have hjb := firstBad_line csT p.l HK.out.2.1 csT_in jb hfb
        have hjL : jb < L.length := by have := HLN.out; omega
        obtain ⟨q, hq⟩ : ∃ q : Int, ((jb : Nat) : Int) = q := ⟨_, rfl⟩
        rw [show encS (some jb) 0 = q by show (((0 + jb : Nat)) : Int) = q; rw [Nat.zero_add]; exact hq]
        have hq0 : 0 ≤ q := by omega
        have hq1 : q < (L.length : Int) := by omega
        have HCLF := Aside0.mk (Kd.C_below HCLW.out HBF0.out)
        obtain ⟨ad9, e9, h0, h1, h2, h3, h4⟩ := at_T46 HCLF.out q hq0 hq1
        cases e9
        have hrd : rd_T46 L q = p.l.getD jb z46 := by
         unfold rd_T46
         rw [show q.toNat = jb by omega, ← HLD.out, List.getD_eq_getElem?_getD, List.getD_eq_getElem?_getD, List.getElem?_take, if_pos hjb]
        have HPE3 : Aside0 (parseF l0 = (0, [], 5, (rd_T46 L q).f3, (rd_T46 L q).f4)) := ⟨by
         obtain ⟨he, hE, h4, hl, hg, hh, hs, hn, hc⟩ := HK.out
         obtain ⟨k1, rfl⟩ : ∃ k1, gk = k1 + 1 := ⟨gk - 1, by omega⟩
         rw [← hg, refGo, hrd]
         simp only []
         rw [if_neg (fun hh => HL1.out hh.1), if_neg HN0.out, hfb]⟩
        obtain ⟨th, hth⟩ : ∃ th, rd_T46 L q = th := ⟨_, rfl⟩
        rw [hth] at h0 h1 h2 h3 h4 HPE3
        have p16 := eq_true hq0
        have p17 := eq_true hq1
        have c16 : decide (0 ≤ q) = true := decide_eq_true hq0
        have c17 : decide (q < (L.length : Int)) = true := decide_eq_true hq1
        clear hth hrd hq0 hq1 hq hfb hjb hjL
        go_wp2_with fail
        refine (pendulumref06_spot.calls 5 (th.f0) (th.f1) (th.f2) (th.f3) (th.f4) _ _ _ _ _ _ rfl).mono ?_
        rintro e wG ⟨vv, rfl, hR, hb⟩
        obtain ⟨Av, cv, rfl, hcv, hCv⟩ := Kd.R_reads hR
        have HRG := Aside0.mk hR
        have HG0G := Aside0.mk (blk_below HG0F.out hb)
        have HG1G := Aside0.mk (blk_below HG1F.out hb)
        have HBG := Aside0.mk (below_step HBF.out hb)
        have HSZ := Aside0.mk (Nat.le_trans HBF.out.size (Nat.le_refl _))
        have hl2 := blk_lt HG1F.out
        clear hR hb hCv
        have fz0 : wG.frozen? ⟨gs, 0, none⟩ = false := blk_frozen HG0G.out 0
        have z0 : wG.cell? ⟨gs, 0, none⟩ = some (.int .i64 0) := blk_cell HG0G.out 0
        have fz1 : wG.frozen? ⟨gs, 1, none⟩ = false := blk_frozen HG0G.out 1
        have z1 : wG.cell? ⟨gs, 1, none⟩ = some (.slice none 0 0) := blk_cell HG0G.out 1
        have gz0 : wG.frozen? ⟨gs + 1, 0, none⟩ = false := blk_frozen HG1G.out 0
        have vz0 : wG.cell? ⟨gs + 1, 0, none⟩ = some (.int .i64 0) := blk_cell HG1G.out 0
        have gz1 : wG.frozen? ⟨gs + 1, 1, none⟩ = false := blk_frozen HG1G.out 1
        have vz1 : wG.cell? ⟨gs + 1, 1, none⟩ = some (.int .i64 0) := blk_cell HG1G.out 1
        have gz2 : wG.frozen? ⟨gs + 1, 2, none⟩ = false := blk_frozen HG1G.out 2
        have vz2 : wG.cell? ⟨gs + 1, 2, none⟩ = some (.int .i64 0) := blk_cell HG1G.out 2
        have n3 : gs + 1 ≠ gs := by omega
        go_wp2
        have hso := set_out HG0G.out HG1G.out (.int .i64 0) (.slice Av 0 cv) (.int .i64 5) (.int .i64 (th.f3)) (.int .i64 (th.f4))
        refine bodyPost_ret (results_cc rfl _ _ gs (gs + 1) _ _ #[.int .i64 0, .slice Av 0 cv] #[.int .i64 5, .int .i64 (th.f3), .int .i64 (th.f4)] (0, 0) (0, 0) _ _ rfl hso.1 Tryd.underlying26 rfl (by kernel_rfl) rfl hso.2 Tryd.underlying29 rfl (by kernel_rfl)) rfl ?_
        rw [HPE3.out]
        refine ⟨_, rfl, Kd.R_lower (set_rows (Kd.R_mono (Kd.R_bound HRG.out) (fun k hk => ?_)) _ _ _ _ _) HSZ.out, set_below HBG.out (by rw [HGS.out]; exact Nat.le_refl _) _ _ _ _ _⟩
        have h1 := hk.2.1
        omega
        -- END cbadT
      | none =>
       ·-- ARM ctask
        have HFB := Aside0.mk hfb
        have hl13 : lineLen p.l = 13 := (good_rest qT p.l HK.out.2.1 (by decide) hfb).1
        have b6 : (m == 1) = false := beq_eq_false_iff_ne.2 (by have h1 := HM.out; have h2 := HN0.out; omega)
        have hL13 : L.length = 13 := by have := HLN.out; omega
        rw [show encS none 0 = (-1 : Int) from rfl]
        have HCLF := Aside0.mk (Kd.C_below HCLW.out HBF0.out)
        obtain ⟨ad0, e0, h0, h1, h2, h3, h4⟩ := at_T46 HCLF.out 0 (by decide) (by omega)
        cases e0
        obtain ⟨x0, hx0⟩ : ∃ x0, rd_T46 L 0 = x0 := ⟨_, rfl⟩
        rw [hx0] at h0 h1 h2 h3 h4
        have HX0 := Aside0.mk hx0
        simp only [Int.toNat_zero, Nat.zero_mul, Addr.add_zero'] at h0 h1 h2 h3 h4
        have HL13 : Aside0 ((L.length : Int) = 13 ∧ L.length = 13) := ⟨⟨by omega, hL13⟩⟩
        have hLi : (L.length : Int) = 13 := by omega
        have HLg : Aside0 (∀ i, i < 13 → L.getD i z46 = p.l.getD i z46) := ⟨fun i hi => by rw [← HLD.out, hl13, List.getD_eq_getElem?_getD, List.getD_eq_getElem?_getD, List.getElem?_take, if_pos hi]⟩
        have HYF : Aside0 (RefY w0 wF g ge t vts u8 p) := ⟨by have h1 := HXF.out.1; have h2 := HXF.out.2.1; rw [HG.out] at h1 h2; exact ⟨h1, h2, HLF.out, HRT.out, HRH.out, HBF0.out⟩⟩
        clear hfb hl13 hx0
        -- BEGIN taskT
        have ha0 : (fun k => k ≠ g ∧ k ≠ g + 1 ∧ k ≠ ge) = (fun k => k ≠ g ∧ k ≠ g + 1 ∧ k ≠ ge) := rfl
        have hph : p.hs.length ≤ 100001 := by have := HK.out.2.2.2.2.2.2.1; omega
        have hpt : p.ts.length ≤ 100001 := by have h1 := HK.out.2.2.2.2.2.1; omega
        have HPT := Aside0.mk hpt
        have HGE : Aside0 (ge ≠ g ∧ w0.heap.size ≤ g) := ⟨⟨by have := HG.out; omega, by have := HG.out; omega⟩⟩
        clear hpt ha0 HG0F HG1F hgE hgF
        go_wp2_with (first | ((with_reducible refine gate_builtin (b := .append) (xs := #[.tmp 125, .tmp 129]) rfl ?_); at_builtin; go_must (refine Kd.R_append k46 w0.heap.size rfl (.tmp 125) (.tmp 129) 41 46 (.agg #[.int .i64 0, .string ⟨#[]⟩, .int .i64 0, .int .i64 0, .int .i64 0]) 48 rfl Tryd.underlying41 infoTokRaw rfl (by decide) (by omega) u8 p.hs x0 [.int .i64 x0.f0, .string x0.f1, .int .i64 x0.f2, .int .i64 x0.f3, .int .i64 x0.f4] (fun k => k ≠ g ∧ k ≠ g + 1 ∧ k ≠ ge) (fun _ => False) rfl rfl (k46_mkM wF w0.heap.size (fun _ => False) x0) (fun _ hk => hk.elim) ?aF HRH.out HBF0.out HBF0.out.size ?aL ?_); (case aF => exact HYF.out.fresh); (case aL => omega); intro v1 w1 hR hb hg hat; have HY1 : Aside0 (RefY w0 w1 g ge t vts v1 { p with hs := p.hs ++ [x0] }) := ⟨HYF.out.heads hg hb hR⟩; clear HRH hR hb hg hat hph))
        obtain ⟨At, ct, hvt⟩ := Kd.R_slice HY1.out.2.2.2.1
        have hvt : vts = .slice At p.ts.length ct := hvt
        subst hvt
        obtain ⟨tz, htz⟩ : ∃ tz : TK, tz = ⟨(rd_T46 L 1).f1, (rd_T46 L 2).f2, (rd_T46 L 3).f2, (rd_T46 L 4).f2, (rd_T46 L 6).f2, (rd_T46 L 7).f2, (rd_T46 L 8).f2, (rd_T46 L 9).f2, (rd_T46 L 10).f2, modeOf (rd_T46 L 5).f1, (rd_T46 L 11).f2⟩ := ⟨_, rfl⟩
        have HTZ := Aside0.mk htz
        obtain ⟨n5, hn5⟩ : ∃ n5, (rd_T46 L 5).f1 = n5 := ⟨_, rfl⟩
        have HN5 := Aside0.mk hn5
        have HMO : Aside0 (modeOf n5 = tz.f9) := ⟨by rw [htz, ← hn5]⟩
        clear htz hn5
        have HS : Aside0 (∀ w' : World, Below w0.heap.size w0 w' → w'.heap[g]? = some (.cells #[.int .i64 p.b, .slice At p.ts.length ct] 26 (0, 0)) → (w'.cell? ⟨g, 1, none⟩ = some (.slice At p.ts.length ct) ∧ w'.cell? ⟨ad.block, ad.off + 5 + 1, none⟩ = some (.string tz.f0) ∧ w'.cell? ⟨ad.block, ad.off + 10 + 2, none⟩ = some (.int .i64 tz.f1) ∧ w'.cell? ⟨ad.block, ad.off + 15 + 2, none⟩ = some (.int .i64 tz.f2) ∧ w'.cell? ⟨ad.block, ad.off + 20 + 2, none⟩ = some (.int .i64 tz.f3) ∧ w'.cell? ⟨ad.block, ad.off + 25 + 1, none⟩ = some (.string n5) ∧ w'.cell? ⟨ad.block, ad.off + 30 + 2, none⟩ = some (.int .i64 tz.f4) ∧ w'.cell? ⟨ad.block, ad.off + 35 + 2, none⟩ = some (.int .i64 tz.f5) ∧ w'.cell? ⟨ad.block, ad.off + 40 + 2, none⟩ = some (.int .i64 tz.f6) ∧ w'.cell? ⟨ad.block, ad.off + 45 + 2, none⟩ = some (.int .i64 tz.f7) ∧ w'.cell? ⟨ad.block, ad.off + 50 + 2, none⟩ = some (.int .i64 tz.f8) ∧ w'.cell? ⟨ad.block, ad.off + 55 + 2, none⟩ = some (.int .i64 tz.f10))) := ⟨fun w' hb hg => by
         have hLi := HL13.out
         have hc := Kd.C_below HCLW.out hb
         obtain ⟨_, e1, _, a1, _, _, _⟩ := at_T46 hc 1 (by decide) (by omega); cases e1
         rw [show (rd_T46 L 1).f1 = tz.f0 by rw [HTZ.out]] at a1
         obtain ⟨_, e2, _, _, a2, _, _⟩ := at_T46 hc 2 (by decide) (by omega); cases e2
         rw [show (rd_T46 L 2).f2 = tz.f1 by rw [HTZ.out]] at a2
         obtain ⟨_, e3, _, _, a3, _, _⟩ := at_T46 hc 3 (by decide) (by omega); cases e3
         rw [show (rd_T46 L 3).f2 = tz.f2 by rw [HTZ.out]] at a3
         obtain ⟨_, e4, _, _, a4, _, _⟩ := at_T46 hc 4 (by decide) (by omega); cases e4
         rw [show (rd_T46 L 4).f2 = tz.f3 by rw [HTZ.out]] at a4
         obtain ⟨_, e5, _, a5, _, _, _⟩ := at_T46 hc 5 (by decide) (by omega); cases e5
         rw [show (rd_T46 L 5).f1 = n5 by exact HN5.out] at a5
         obtain ⟨_, e6, _, _, a6, _, _⟩ := at_T46 hc 6 (by decide) (by omega); cases e6
         rw [show (rd_T46 L 6).f2 = tz.f4 by rw [HTZ.out]] at a6
         obtain ⟨_, e7, _, _, a7, _, _⟩ := at_T46 hc 7 (by decide) (by omega); cases e7
         rw [show (rd_T46 L 7).f2 = tz.f5 by rw [HTZ.out]] at a7
         obtain ⟨_, e8, _, _, a8, _, _⟩ := at_T46 hc 8 (by decide) (by omega); cases e8
         rw [show (rd_T46 L 8).f2 = tz.f6 by rw [HTZ.out]] at a8
         obtain ⟨_, e9, _, _, a9, _, _⟩ := at_T46 hc 9 (by decide) (by omega); cases e9
         rw [show (rd_T46 L 9).f2 = tz.f7 by rw [HTZ.out]] at a9
         obtain ⟨_, e10, _, _, a10, _, _⟩ := at_T46 hc 10 (by decide) (by omega); cases e10
         rw [show (rd_T46 L 10).f2 = tz.f8 by rw [HTZ.out]] at a10
         obtain ⟨_, e11, _, _, a11, _, _⟩ := at_T46 hc 11 (by decide) (by omega); cases e11
         rw [show (rd_T46 L 11).f2 = tz.f10 by rw [HTZ.out]] at a11
         exact ⟨blk_cell hg 1, a1, a2, a3, a4, a5, a6, a7, a8, a9, a10, a11⟩⟩
        refine wp_region_noPanic ?_
        refine wp_region_late [51] (fun w' : World => w'.cell? ⟨g, 1, none⟩ = some (.slice At p.ts.length ct) ∧ w'.cell? ⟨ad.block, ad.off + 5 + 1, none⟩ = some (.string tz.f0) ∧ w'.cell? ⟨ad.block, ad.off + 10 + 2, none⟩ = some (.int .i64 tz.f1) ∧ w'.cell? ⟨ad.block, ad.off + 15 + 2, none⟩ = some (.int .i64 tz.f2) ∧ w'.cell? ⟨ad.block, ad.off + 20 + 2, none⟩ = some (.int .i64 tz.f3) ∧ w'.cell? ⟨ad.block, ad.off + 25 + 1, none⟩ = some (.string n5) ∧ w'.cell? ⟨ad.block, ad.off + 30 + 2, none⟩ = some (.int .i64 tz.f4) ∧ w'.cell? ⟨ad.block, ad.off + 35 + 2, none⟩ = some (.int .i64 tz.f5) ∧ w'.cell? ⟨ad.block, ad.off + 40 + 2, none⟩ = some (.int .i64 tz.f6) ∧ w'.cell? ⟨ad.block, ad.off + 45 + 2, none⟩ = some (.int .i64 tz.f7) ∧ w'.cell? ⟨ad.block, ad.off + 50 + 2, none⟩ = some (.int .i64 tz.f8) ∧ w'.cell? ⟨ad.block, ad.off + 55 + 2, none⟩ = some (.int .i64 tz.f10)) (by kernel_rfl) ?_
        have hs0 := HS.out w1.drew (below_drew HY1.out.2.2.2.2.2) HY1.out.1
        -- REGION 35
        refine wpL_takeT (i := 0) (v := ?v0r) rfl (by kernel_rfl) (by kernel_rfl) (by kernel_rfl) (by kernel_rfl) (fun _ _ _ h => h) (Or.inl ⟨by rfl, ?hy0r⟩) (fun _ => hs0) ?rest0r
        case hy0r => (intro w hSw; (try dsimp only at hSw); go_simp; (first | done | with_reducible rfl))
        try simp only [Act.put, List.getElem_toArray, List.getElem_cons_zero, List.getElem_cons_succ, List.setIfInBounds_toArray, List.set_cons_zero, List.set_cons_succ]
        refine wpL_take (i := 1) (v := ?v1r) rfl (by kernel_rfl) (by kernel_rfl) (by kernel_rfl) (by kernel_rfl) (by kernel_rfl) (by kernel_rfl) (fun _ _ _ h => h) (Or.inl ⟨by rfl, ?hy1r⟩) hs0 ?rest1r
        case hy1r => (intro w hSw; (try dsimp only at hSw); (try obtain ⟨h0, h1, h2, h3, h4, h5, h6, h7, h8, h9, h10, h11⟩ := hSw); go_simp; (first | done | with_reducible rfl))
        try simp only [Act.put, List.getElem_toArray, List.getElem_cons_zero, List.getElem_cons_succ, List.setIfInBounds_toArray, List.set_cons_zero, List.set_cons_succ]
        refine wpL_takeT (i := 2) (v := ?v2r) rfl (by kernel_rfl) (by kernel_rfl) (by kernel_rfl) (by kernel_rfl) (fun _ _ _ h => h) (Or.inl ⟨by rfl, ?hy2r⟩) (fun _ => hs0) ?rest2r
        case hy2r => (intro w hSw; (try dsimp only at hSw); go_simp; (first | done | with_reducible rfl))
        try simp only [Act.put, List.getElem_toArray, List.getElem_cons_zero, List.getElem_cons_succ, List.setIfInBounds_toArray, List.set_cons_zero, List.set_cons_succ]
        refine wpL_takeT (i := 3) (v := ?v3r) rfl (by kernel_rfl) (by kernel_rfl) (by kernel_rfl) (by kernel_rfl) (fun _ _ _ h => h) (Or.inl ⟨by rfl, ?hy3r⟩) (fun _ => hs0) ?rest3r
        case hy3r => (intro w hSw; (try dsimp only at hSw); go_simp; (first | done | with_reducible rfl))
        try simp only [Act.put, List.getElem_toArray, List.getElem_cons_zero, List.getElem_cons_succ, List.setIfInBounds_toArray, List.set_cons_zero, List.set_cons_succ]
        refine wpL_takeT (i := 4) (v := ?v4r) rfl (by kernel_rfl) (by kernel_rfl) (by kernel_rfl) (by kernel_rfl) (fun _ _ _ h => h) (Or.inl ⟨by rfl, ?hy4r⟩) (fun _ => hs0) ?rest4r
        case hy4r => (intro w hSw; (try dsimp only at hSw); go_simp; (first | done | with_reducible rfl))
        try simp only [Act.put, List.getElem_toArray, List.getElem_cons_zero, List.getElem_cons_succ, List.setIfInBounds_toArray, List.set_cons_zero, List.set_cons_succ]
        refine wpL_take (i := 5) (v := ?v5r) rfl (by kernel_rfl) (by kernel_rfl) (by kernel_rfl) (by kernel_rfl) (by kernel_rfl) (by kernel_rfl) (fun _ _ _ h => h) (Or.inl ⟨by rfl, ?hy5r⟩) hs0 ?rest5r
        case hy5r => (intro w hSw; (try dsimp only at hSw); (try obtain ⟨h0, h1, h2, h3, h4, h5, h6, h7, h8, h9, h10, h11⟩ := hSw); go_simp; (first | done | with_reducible rfl))
        try simp only [Act.put, List.getElem_toArray, List.getElem_cons_zero, List.getElem_cons_succ, List.setIfInBounds_toArray, List.set_cons_zero, List.set_cons_succ]
        refine wpL_takeT (i := 6) (v := ?v6r) rfl (by kernel_rfl) (by kernel_rfl) (by kernel_rfl) (by kernel_rfl) (fun _ _ _ h => h) (Or.inl ⟨by rfl, ?hy6r⟩) (fun _ => hs0) ?rest6r
        case hy6r => (intro w hSw; (try dsimp only at hSw); go_simp; (first | done | with_reducible rfl))
        try simp only [Act.put, List.getElem_toArray, List.getElem_cons_zero, List.getElem_cons_succ, List.setIfInBounds_toArray, List.set_cons_zero, List.set_cons_succ]
        refine wpL_takeT (i := 7) (v := ?v7r) rfl (by kernel_rfl) (by kernel_rfl) (by kernel_rfl) (by kernel_rfl) (fun _ _ _ h => h) (Or.inl ⟨by rfl, ?hy7r⟩) (fun _ => hs0) ?rest7r
        case hy7r => (intro w hSw; (try dsimp only at hSw); go_simp; (first | done | with_reducible rfl))
        try simp only [Act.put, List.getElem_toArray, List.getElem_cons_zero, List.getElem_cons_succ, List.setIfInBounds_toArray, List.set_cons_zero, List.set_cons_succ]
        refine wpL_takeT (i := 8) (v := ?v8r) rfl (by kernel_rfl) (by kernel_rfl) (by kernel_rfl) (by kernel_rfl) (fun _ _ _ h => h) (Or.inl ⟨by rfl, ?hy8r⟩) (fun _ => hs0) ?rest8r
        case hy8r => (intro w hSw; (try dsimp only at hSw); go_simp; (first | done | with_reducible rfl))
        try simp only [Act.put, List.getElem_toArray, List.getElem_cons_zero, List.getElem_cons_succ, List.setIfInBounds_toArray, List.set_cons_zero, List.set_cons_succ]
        refine wpL_take (i := 9) (v := ?v9r) rfl (by kernel_rfl) (by kernel_rfl) (by kernel_rfl) (by kernel_rfl) (by kernel_rfl) (by kernel_rfl) (fun _ _ _ h => h) (Or.inl ⟨by rfl, ?hy9r⟩) hs0 ?rest9r
        case hy9r => (intro w hSw; (try dsimp only at hSw); (try obtain ⟨h0, h1, h2, h3, h4, h5, h6, h7, h8, h9, h10, h11⟩ := hSw); go_simp; (first | done | with_reducible rfl))
        try simp only [Act.put, List.getElem_toArray, List.getElem_cons_zero, List.getElem_cons_succ, List.setIfInBounds_toArray, List.set_cons_zero, List.set_cons_succ]
        refine wpL_takeT (i := 10) (v := ?v10r) rfl (by kernel_rfl) (by kernel_rfl) (by kernel_rfl) (by kernel_rfl) (fun _ _ _ h => h) (Or.inl ⟨by rfl, ?hy10r⟩) (fun _ => hs0) ?rest10r
        case hy10r => (intro w hSw; (try dsimp only at hSw); go_simp; (first | done | with_reducible rfl))
        try simp only [Act.put, List.getElem_toArray, List.getElem_cons_zero, List.getElem_cons_succ, List.setIfInBounds_toArray, List.set_cons_zero, List.set_cons_succ]
        refine wpL_takeT (i := 11) (v := ?v11r) rfl (by kernel_rfl) (by kernel_rfl) (by kernel_rfl) (by kernel_rfl) (fun _ _ _ h => h) (Or.inl ⟨by rfl, ?hy11r⟩) (fun _ => hs0) ?rest11r
        case hy11r => (intro w hSw; (try dsimp only at hSw); go_simp; (first | done | with_reducible rfl))
        try simp only [Act.put, List.getElem_toArray, List.getElem_cons_zero, List.getElem_cons_succ, List.setIfInBounds_toArray, List.set_cons_zero, List.set_cons_succ]
        refine wpL_takeT (i := 12) (v := ?v12r) rfl (by kernel_rfl) (by kernel_rfl) (by kernel_rfl) (by kernel_rfl) (fun _ _ _ h => h) (Or.inl ⟨by rfl, ?hy12r⟩) (fun _ => hs0) ?rest12r
        case hy12r => (intro w hSw; (try dsimp only at hSw); go_simp; (first | done | with_reducible rfl))
        try simp only [Act.put, List.getElem_toArray, List.getElem_cons_zero, List.getElem_cons_succ, List.setIfInBounds_toArray, List.set_cons_zero, List.set_cons_succ]
        refine wpL_take (i := 13) (v := ?v13r) rfl (by kernel_rfl) (by kernel_rfl) (by kernel_rfl) (by kernel_rfl) (by kernel_rfl) (by kernel_rfl) (fun _ _ _ h => h) (Or.inl ⟨by rfl, ?hy13r⟩) hs0 ?rest13r
        case hy13r => (intro w hSw; (try dsimp only at hSw); (try obtain ⟨h0, h1, h2, h3, h4, h5, h6, h7, h8, h9, h10, h11⟩ := hSw); go_simp; (first | done | with_reducible rfl))
        try simp only [Act.put, List.getElem_toArray, List.getElem_cons_zero, List.getElem_cons_succ, List.setIfInBounds_toArray, List.set_cons_zero, List.set_cons_succ]
        refine wpL_takeT (i := 14) (v := ?v14r) rfl (by kernel_rfl) (by kernel_rfl) (by kernel_rfl) (by kernel_rfl) (fun _ _ _ h => h) (Or.inl ⟨by rfl, ?hy14r⟩) (fun _ => hs0) ?rest14r
        case hy14r => (intro w hSw; (try dsimp only at hSw); go_simp; (first | done | with_reducible rfl))
        try simp only [Act.put, List.getElem_toArray, List.getElem_cons_zero, List.getElem_cons_succ, List.setIfInBounds_toArray, List.set_cons_zero, List.set_cons_succ]
        refine wpL_takeT (i := 15) (v := ?v15r) rfl (by kernel_rfl) (by kernel_rfl) (by kernel_rfl) (by kernel_rfl) (fun _ _ _ h => h) (Or.inl ⟨by rfl, ?hy15r⟩) (fun _ => hs0) ?rest15r
        case hy15r => (intro w hSw; (try dsimp only at hSw); go_simp; (first | done | with_reducible rfl))
        try simp only [Act.put, List.getElem_toArray, List.getElem_cons_zero, List.getElem_cons_succ, List.setIfInBounds_toArray, List.set_cons_zero, List.set_cons_succ]
        refine wpL_takeT (i := 16) (v := ?v16r) rfl (by kernel_rfl) (by kernel_rfl) (by kernel_rfl) (by kernel_rfl) (fun _ _ _ h => h) (Or.inl ⟨by rfl, ?hy16r⟩) (fun _ => hs0) ?rest16r
        case hy16r => (intro w hSw; (try dsimp only at hSw); go_simp; (first | done | with_reducible rfl))
        try simp only [Act.put, List.getElem_toArray, List.getElem_cons_zero, List.getElem_cons_succ, List.setIfInBounds_toArray, List.set_cons_zero, List.set_cons_succ]
        refine wpL_take (i := 17) (v := ?v17r) rfl (by kernel_rfl) (by kernel_rfl) (by kernel_rfl) (by kernel_rfl) (by kernel_rfl) (by kernel_rfl) (fun _ _ _ h => h) (Or.inl ⟨by rfl, ?hy17r⟩) hs0 ?rest17r
        case hy17r => (intro w hSw; (try dsimp only at hSw); (try obtain ⟨h0, h1, h2, h3, h4, h5, h6, h7, h8, h9, h10, h11⟩ := hSw); go_simp; (first | done | with_reducible rfl))
        try simp only [Act.put, List.getElem_toArray, List.getElem_cons_zero, List.getElem_cons_succ, List.setIfInBounds_toArray, List.set_cons_zero, List.set_cons_succ]
        refine wpL_takeT (i := 18) (v := ?v18r) rfl (by kernel_rfl) (by kernel_rfl) (by kernel_rfl) (by kernel_rfl) (fun _ _ _ h => h) (Or.inl ⟨by rfl, ?hy18r⟩) (fun _ => hs0) ?rest18r
        case hy18r => (intro w hSw; (try dsimp only at hSw); go_simp; (first | done | with_reducible rfl))
        try simp only [Act.put, List.getElem_toArray, List.getElem_cons_zero, List.getElem_cons_succ, List.setIfInBounds_toArray, List.set_cons_zero, List.set_cons_succ]
        refine wpL_takeT (i := 19) (v := ?v19r) rfl (by kernel_rfl) (by kernel_rfl) (by kernel_rfl) (by kernel_rfl) (fun _ _ _ h => h) (Or.inl ⟨by rfl, ?hy19r⟩) (fun _ => hs0) ?rest19r
        case hy19r => (intro w hSw; (try dsimp only at hSw); go_simp; (first | done | with_reducible rfl))
        try simp only [Act.put, List.getElem_toArray, List.getElem_cons_zero, List.getElem_cons_succ, List.setIfInBounds_toArray, List.set_cons_zero, List.set_cons_succ]
        refine wpL_takeT (i := 20) (v := ?v20r) rfl (by kernel_rfl) (by kernel_rfl) (by kernel_rfl) (by kernel_rfl) (fun _ _ _ h => h) (Or.inl ⟨by rfl, ?hy20r⟩) (fun _ => hs0) ?rest20r
        case hy20r => (intro w hSw; (try dsimp only at hSw); go_simp; (first | done | with_reducible rfl))
        try simp only [Act.put, List.getElem_toArray, List.getElem_cons_zero, List.getElem_cons_succ, List.setIfInBounds_toArray, List.set_cons_zero, List.set_cons_succ]
        refine wpL_take (i := 21) (v := ?v21r) rfl (by kernel_rfl) (by kernel_rfl) (by kernel_rfl) (by kernel_rfl) (by kernel_rfl) (by kernel_rfl) (fun _ _ _ h => h) (Or.inl ⟨by rfl, ?hy21r⟩) hs0 ?rest21r
        case hy21r => (intro w hSw; (try dsimp only at hSw); (try obtain ⟨h0, h1, h2, h3, h4, h5, h6, h7, h8, h9, h10, h11⟩ := hSw); go_simp; (first | done | with_reducible rfl))
        try simp only [Act.put, List.getElem_toArray, List.getElem_cons_zero, List.getElem_cons_succ, List.setIfInBounds_toArray, List.set_cons_zero, List.set_cons_succ]
        refine wpL_takeT (i := 23) (v := ?v23r) rfl (by kernel_rfl) (by kernel_rfl) (by kernel_rfl) (by kernel_rfl) (fun _ _ _ h => h) (Or.inl ⟨by rfl, ?hy23r⟩) (fun _ => hs0) ?rest23r
        case hy23r => (intro w hSw; (try dsimp only at hSw); go_simp; (first | done | with_reducible rfl))
        try simp only [Act.put, List.getElem_toArray, List.getElem_cons_zero, List.getElem_cons_succ, List.setIfInBounds_toArray, List.set_cons_zero, List.set_cons_succ]
        refine wpL_takeT (i := 24) (v := ?v24r) rfl (by kernel_rfl) (by kernel_rfl) (by kernel_rfl) (by kernel_rfl) (fun _ _ _ h => h) (Or.inl ⟨by rfl, ?hy24r⟩) (fun _ => hs0) ?rest24r
        case hy24r => (intro w hSw; (try dsimp only at hSw); go_simp; (first | done | with_reducible rfl))
        try simp only [Act.put, List.getElem_toArray, List.getElem_cons_zero, List.getElem_cons_succ, List.setIfInBounds_toArray, List.set_cons_zero, List.set_cons_succ]
        refine wpL_takeT (i := 25) (v := ?v25r) rfl (by kernel_rfl) (by kernel_rfl) (by kernel_rfl) (by kernel_rfl) (fun _ _ _ h => h) (Or.inl ⟨by rfl, ?hy25r⟩) (fun _ => hs0) ?rest25r
        case hy25r => (intro w hSw; (try dsimp only at hSw); go_simp; (first | done | with_reducible rfl))
        try simp only [Act.put, List.getElem_toArray, List.getElem_cons_zero, List.getElem_cons_succ, List.setIfInBounds_toArray, List.set_cons_zero, List.set_cons_succ]
        refine wpL_take (i := 26) (v := ?v26r) rfl (by kernel_rfl) (by kernel_rfl) (by kernel_rfl) (by kernel_rfl) (by kernel_rfl) (by kernel_rfl) (fun _ _ _ h => h) (Or.inl ⟨by rfl, ?hy26r⟩) hs0 ?rest26r
        case hy26r => (intro w hSw; (try dsimp only at hSw); (try obtain ⟨h0, h1, h2, h3, h4, h5, h6, h7, h8, h9, h10, h11⟩ := hSw); go_simp; (first | done | with_reducible rfl))
        try simp only [Act.put, List.getElem_toArray, List.getElem_cons_zero, List.getElem_cons_succ, List.setIfInBounds_toArray, List.set_cons_zero, List.set_cons_succ]
        refine wpL_takeT (i := 27) (v := ?v27r) rfl (by kernel_rfl) (by kernel_rfl) (by kernel_rfl) (by kernel_rfl) (fun _ _ _ h => h) (Or.inl ⟨by rfl, ?hy27r⟩) (fun _ => hs0) ?rest27r
        case hy27r => (intro w hSw; (try dsimp only at hSw); go_simp; (first | done | with_reducible rfl))
        try simp only [Act.put, List.getElem_toArray, List.getElem_cons_zero, List.getElem_cons_succ, List.setIfInBounds_toArray, List.set_cons_zero, List.set_cons_succ]
        refine wpL_takeT (i := 28) (v := ?v28r) rfl (by kernel_rfl) (by kernel_rfl) (by kernel_rfl) (by kernel_rfl) (fun _ _ _ h => h) (Or.inl ⟨by rfl, ?hy28r⟩) (fun _ => hs0) ?rest28r
        case hy28r => (intro w hSw; (try dsimp only at hSw); go_simp; (first | done | with_reducible rfl))
        try simp only [Act.put, List.getElem_toArray, List.getElem_cons_zero, List.getElem_cons_succ, List.setIfInBounds_toArray, List.set_cons_zero, List.set_cons_succ]
        refine wpL_takeT (i := 29) (v := ?v29r) rfl (by kernel_rfl) (by kernel_rfl) (by kernel_rfl) (by kernel_rfl) (fun _ _ _ h => h) (Or.inl ⟨by rfl, ?hy29r⟩) (fun _ => hs0) ?rest29r
        case hy29r => (intro w hSw; (try dsimp only at hSw); go_simp; (first | done | with_reducible rfl))
        try simp only [Act.put, List.getElem_toArray, List.getElem_cons_zero, List.getElem_cons_succ, List.setIfInBounds_toArray, List.set_cons_zero, List.set_cons_succ]
        refine wpL_take (i := 30) (v := ?v30r) rfl (by kernel_rfl) (by kernel_rfl) (by kernel_rfl) (by kernel_rfl) (by kernel_rfl) (by kernel_rfl) (fun _ _ _ h => h) (Or.inl ⟨by rfl, ?hy30r⟩) hs0 ?rest30r
        case hy30r => (intro w hSw; (try dsimp only at hSw); (try obtain ⟨h0, h1, h2, h3, h4, h5, h6, h7, h8, h9, h10, h11⟩ := hSw); go_simp; (first | done | with_reducible rfl))
        try simp only [Act.put, List.getElem_toArray, List.getElem_cons_zero, List.getElem_cons_succ, List.setIfInBounds_toArray, List.set_cons_zero, List.set_cons_succ]
        refine wpL_takeT (i := 31) (v := ?v31r) rfl (by kernel_rfl) (by kernel_rfl) (by kernel_rfl) (by kernel_rfl) (fun _ _ _ h => h) (Or.inl ⟨by rfl, ?hy31r⟩) (fun _ => hs0) ?rest31r
        case hy31r => (intro w hSw; (try dsimp only at hSw); go_simp; (first | done | with_reducible rfl))
        try simp only [Act.put, List.getElem_toArray, List.getElem_cons_zero, List.getElem_cons_succ, List.setIfInBounds_toArray, List.set_cons_zero, List.set_cons_succ]
        refine wpL_takeT (i := 32) (v := ?v32r) rfl (by kernel_rfl) (by kernel_rfl) (by kernel_rfl) (by kernel_rfl) (fun _ _ _ h => h) (Or.inl ⟨by rfl, ?hy32r⟩) (fun _ => hs0) ?rest32r
        case hy32r => (intro w hSw; (try dsimp only at hSw); go_simp; (first | done | with_reducible rfl))
        try simp only [Act.put, List.getElem_toArray, List.getElem_cons_zero, List.getElem_cons_succ, List.setIfInBounds_toArray, List.set_cons_zero, List.set_cons_succ]
        refine wpL_takeT (i := 33) (v := ?v33r) rfl (by kernel_rfl) (by kernel_rfl) (by kernel_rfl) (by kernel_rfl) (fun _ _ _ h => h) (Or.inl ⟨by rfl, ?hy33r⟩) (fun _ => hs0) ?rest33r
        case hy33r => (intro w hSw; (try dsimp only at hSw); go_simp; (first | done | with_reducible rfl))
        try simp only [Act.put, List.getElem_toArray, List.getElem_cons_zero, List.getElem_cons_succ, List.setIfInBounds_toArray, List.set_cons_zero, List.set_cons_succ]
        refine wpL_take (i := 34) (v := ?v34r) rfl (by kernel_rfl) (by kernel_rfl) (by kernel_rfl) (by kernel_rfl) (by kernel_rfl) (by kernel_rfl) (fun _ _ _ h => h) (Or.inl ⟨by rfl, ?hy34r⟩) hs0 ?rest34r
        case hy34r => (intro w hSw; (try dsimp only at hSw); (try obtain ⟨h0, h1, h2, h3, h4, h5, h6, h7, h8, h9, h10, h11⟩ := hSw); go_simp; (first | done | with_reducible rfl))
        try simp only [Act.put, List.getElem_toArray, List.getElem_cons_zero, List.getElem_cons_succ, List.setIfInBounds_toArray, List.set_cons_zero, List.set_cons_succ]
        refine wpL_takeT (i := 35) (v := ?v35r) rfl (by kernel_rfl) (by kernel_rfl) (by kernel_rfl) (by kernel_rfl) (fun _ _ _ h => h) (Or.inl ⟨by rfl, ?hy35r⟩) (fun _ => hs0) ?rest35r
        case hy35r => (intro w hSw; (try dsimp only at hSw); go_simp; (first | done | with_reducible rfl))
        try simp only [Act.put, List.getElem_toArray, List.getElem_cons_zero, List.getElem_cons_succ, List.setIfInBounds_toArray, List.set_cons_zero, List.set_cons_succ]
        refine wpL_takeT (i := 36) (v := ?v36r) rfl (by kernel_rfl) (by kernel_rfl) (by kernel_rfl) (by kernel_rfl) (fun _ _ _ h => h) (Or.inl ⟨by rfl, ?hy36r⟩) (fun _ => hs0) ?rest36r
        case hy36r => (intro w hSw; (try dsimp only at hSw); go_simp; (first | done | with_reducible rfl))
        try simp only [Act.put, List.getElem_toArray, List.getElem_cons_zero, List.getElem_cons_succ, List.setIfInBounds_toArray, List.set_cons_zero, List.set_cons_succ]
        refine wpL_takeT (i := 37) (v := ?v37r) rfl (by kernel_rfl) (by kernel_rfl) (by kernel_rfl) (by kernel_rfl) (fun _ _ _ h => h) (Or.inl ⟨by rfl, ?hy37r⟩) (fun _ => hs0) ?rest37r
        case hy37r => (intro w hSw; (try dsimp only at hSw); go_simp; (first | done | with_reducible rfl))
        try simp only [Act.put, List.getElem_toArray, List.getElem_cons_zero, List.getElem_cons_succ, List.setIfInBounds_toArray, List.set_cons_zero, List.set_cons_succ]
        refine wpL_take (i := 38) (v := ?v38r) rfl (by kernel_rfl) (by kernel_rfl) (by kernel_rfl) (by kernel_rfl) (by kernel_rfl) (by kernel_rfl) (fun _ _ _ h => h) (Or.inl ⟨by rfl, ?hy38r⟩) hs0 ?rest38r
        case hy38r => (intro w hSw; (try dsimp only at hSw); (try obtain ⟨h0, h1, h2, h3, h4, h5, h6, h7, h8, h9, h10, h11⟩ := hSw); go_simp; (first | done | with_reducible rfl))
        try simp only [Act.put, List.getElem_toArray, List.getElem_cons_zero, List.getElem_cons_succ, List.setIfInBounds_toArray, List.set_cons_zero, List.set_cons_succ]
        refine wpL_takeT (i := 39) (v := ?v39r) rfl (by kernel_rfl) (by kernel_rfl) (by kernel_rfl) (by kernel_rfl) (fun _ _ _ h => h) (Or.inl ⟨by rfl, ?hy39r⟩) (fun _ => hs0) ?rest39r
        case hy39r => (intro w hSw; (try dsimp only at hSw); go_simp; (first | done | with_reducible rfl))
        try simp only [Act.put, List.getElem_toArray, List.getElem_cons_zero, List.getElem_cons_succ, List.setIfInBounds_toArray, List.set_cons_zero, List.set_cons_succ]
        refine wpL_takeT (i := 40) (v := ?v40r) rfl (by kernel_rfl) (by kernel_rfl) (by kernel_rfl) (by kernel_rfl) (fun _ _ _ h => h) (Or.inl ⟨by rfl, ?hy40r⟩) (fun _ => hs0) ?rest40r
        case hy40r => (intro w hSw; (try dsimp only at hSw); go_simp; (first | done | with_reducible rfl))
        try simp only [Act.put, List.getElem_toArray, List.getElem_cons_zero, List.getElem_cons_succ, List.setIfInBounds_toArray, List.set_cons_zero, List.set_cons_succ]
        refine wpL_takeT (i := 41) (v := ?v41r) rfl (by kernel_rfl) (by kernel_rfl) (by kernel_rfl) (by kernel_rfl) (fun _ _ _ h => h) (Or.inl ⟨by rfl, ?hy41r⟩) (fun _ => hs0) ?rest41r
        case hy41r => (intro w hSw; (try dsimp only at hSw); go_simp; (first | done | with_reducible rfl))
        try simp only [Act.put, List.getElem_toArray, List.getElem_cons_zero, List.getElem_cons_succ, List.setIfInBounds_toArray, List.set_cons_zero, List.set_cons_succ]
        refine wpL_take (i := 42) (v := ?v42r) rfl (by kernel_rfl) (by kernel_rfl) (by kernel_rfl) (by kernel_rfl) (by kernel_rfl) (by kernel_rfl) (fun _ _ _ h => h) (Or.inl ⟨by rfl, ?hy42r⟩) hs0 ?rest42r
        case hy42r => (intro w hSw; (try dsimp only at hSw); (try obtain ⟨h0, h1, h2, h3, h4, h5, h6, h7, h8, h9, h10, h11⟩ := hSw); go_simp; (first | done | with_reducible rfl))
        try simp only [Act.put, List.getElem_toArray, List.getElem_cons_zero, List.getElem_cons_succ, List.setIfInBounds_toArray, List.set_cons_zero, List.set_cons_succ]
        refine wpL_takeT (i := 43) (v := ?v43r) rfl (by kernel_rfl) (by kernel_rfl) (by kernel_rfl) (by kernel_rfl) (fun _ _ _ h => h) (Or.inl ⟨by rfl, ?hy43r⟩) (fun _ => hs0) ?rest43r
        case hy43r => (intro w hSw; (try dsimp only at hSw); go_simp; (first | done | with_reducible rfl))
        try simp only [Act.put, List.getElem_toArray, List.getElem_cons_zero, List.getElem_cons_succ, List.setIfInBounds_toArray, List.set_cons_zero, List.set_cons_succ]
        refine wpL_takeT (i := 44) (v := ?v44r) rfl (by kernel_rfl) (by kernel_rfl) (by kernel_rfl) (by kernel_rfl) (fun _ _ _ h => h) (Or.inl ⟨by rfl, ?hy44r⟩) (fun _ => hs0) ?rest44r
        case hy44r => (intro w hSw; (try dsimp only at hSw); go_simp; (first | done | with_reducible rfl))
        try simp only [Act.put, List.getElem_toArray, List.getElem_cons_zero, List.getElem_cons_succ, List.setIfInBounds_toArray, List.set_cons_zero, List.set_cons_succ]
        refine wpL_takeT (i := 45) (v := ?v45r) rfl (by kernel_rfl) (by kernel_rfl) (by kernel_rfl) (by kernel_rfl) (fun _ _ _ h => h) (Or.inl ⟨by rfl, ?hy45r⟩) (fun _ => hs0) ?rest45r
        case hy45r => (intro w hSw; (try dsimp only at hSw); go_simp; (first | done | with_reducible rfl))
        try simp only [Act.put, List.getElem_toArray, List.getElem_cons_zero, List.getElem_cons_succ, List.setIfInBounds_toArray, List.set_cons_zero, List.set_cons_succ]
        refine wpL_take (i := 46) (v := ?v46r) rfl (by kernel_rfl) (by kernel_rfl) (by kernel_rfl) (by kernel_rfl) (by kernel_rfl) (by kernel_rfl) (fun _ _ _ h => h) (Or.inl ⟨by rfl, ?hy46r⟩) hs0 ?rest46r
        case hy46r => (intro w hSw; (try dsimp only at hSw); (try obtain ⟨h0, h1, h2, h3, h4, h5, h6, h7, h8, h9, h10, h11⟩ := hSw); go_simp; (first | done | with_reducible rfl))
        try simp only [Act.put, List.getElem_toArray, List.getElem_cons_zero, List.getElem_cons_succ, List.setIfInBounds_toArray, List.set_cons_zero, List.set_cons_succ]
        refine wpL_ready (rs := [22]) (by kernel_rfl) (by simp) (AllL.cons rfl (fun K hK => ?_) AllL.nil)
        have hs0' := hs0
        clear hs0
        go_simp
        have hcall := pendulumref06_Mode.calls n5 tz.f9 w1.drew (by rw [ref_mode2, HMO.out])
        refine hcall.mono ?_
        rintro e wM ⟨rfl, hbm⟩
        have HYM : Aside0 (RefY w0 wM g ge t (.slice At p.ts.length ct) v1 { p with hs := p.hs ++ [x0] }) := ⟨(HY1.out.drew).below hbm.below⟩
        have hs2 := HS.out wM HYM.out.2.2.2.2.2 HYM.out.1
        clear hcall hbm HY1
        go_wp2_with fail
        refine hK.out _ _ hs2 ?_
        clear hK K
        try simp only [Act.put, List.getElem_toArray, List.getElem_cons_zero, List.getElem_cons_succ, List.setIfInBounds_toArray, List.set_cons_zero, List.set_cons_succ]
        refine wpL_ready (rs := [47]) (by kernel_rfl) (by simp) (AllL.cons rfl (fun K hK => ?_) AllL.nil)
        go_simp
        refine hK.out _ _ hs2 ?_
        clear hK K
        try simp only [Act.put, List.getElem_toArray, List.getElem_cons_zero, List.getElem_cons_succ, List.setIfInBounds_toArray, List.set_cons_zero, List.set_cons_succ]
        refine wpL_ready (rs := [48]) (by kernel_rfl) (by simp) (AllL.cons rfl (fun K hK => ?_) AllL.nil)
        go_simp
        refine hK.out _ _ (HS.out _ (below_alloc HYM.out.2.2.2.2.2 _) (blk_alloc HYM.out.1 _)) ?_
        clear hK K
        try simp only [Act.put, List.getElem_toArray, List.getElem_cons_zero, List.getElem_cons_succ, List.setIfInBounds_toArray, List.set_cons_zero, List.set_cons_succ]
        refine wpL_ready (rs := [49]) (by kernel_rfl) (by simp) (AllL.cons rfl (fun K hK => ?_) AllL.nil)
        refine Kd.R_append_step k40 w0.heap.size (by rfl) (.tmp 132) (.tmp 179) 24 40 (.agg #[.string ⟨#[]⟩, .int .i64 0, .int .i64 0, .int .i64 0, .int .i64 0, .int .i64 0, .int .i64 0, .int .i64 0, .int .i64 0, .int .i64 0, .int .i64 0]) 96 rfl Tryd.underlying24 infoTaskRaw rfl (by decide) (by omega) (.slice At p.ts.length ct) p.ts tz [.string tz.f0, .int .i64 tz.f1, .int .i64 tz.f2, .int .i64 tz.f3, .int .i64 tz.f4, .int .i64 tz.f5, .int .i64 tz.f6, .int .i64 tz.f7, .int .i64 tz.f8, .int .i64 tz.f9, .int .i64 tz.f10] (fun k => k ≠ g ∧ k ≠ g + 1 ∧ k ≠ ge) (fun _ => False) rfl rfl (k40_mkM wM w0.heap.size (fun _ => False) tz) (fun _ hk => hk.elim) HYM.out.fresh HYM.out.2.2.2.1 HYM.out.2.2.2.2.2 HYM.out.2.2.2.2.2.size (by have := HPT.out; omega) ?_
        intro v9 w9 hR hb hg hat
        have HYT := Aside0.mk (HYM.out.tasks hg hb hR HGE.out.2 HGE.out.1)
        have y1 := blk_frozen HYT.out.1 1
        have y0 : w9.cell? ⟨g, 1, none⟩ = some (.slice At p.ts.length ct) := blk_cell HYT.out.1 1
        have hs9 := HS.out w9 hb HYT.out.1
        obtain ⟨A9, n9, c9, hv9⟩ : ∃ A n c, v9 = Value.slice A n c := by obtain ⟨A, c, h⟩ := Kd.R_slice hR; exact ⟨_, _, _, h⟩
        subst hv9
        clear hR hb hg hat
        refine hK.out _ _ hs9 ?_
        clear hK K
        try simp only [Act.put, List.getElem_toArray, List.getElem_cons_zero, List.getElem_cons_succ, List.setIfInBounds_toArray, List.set_cons_zero, List.set_cons_succ]
        refine wpL_ready (rs := [50]) (by kernel_rfl) (by simp) (AllL.cons rfl (fun K hK => ?_) AllL.nil)
        go_simp
        refine hK.out _ _ hs9 ?_
        clear hK K
        try simp only [Act.put, List.getElem_toArray, List.getElem_cons_zero, List.getElem_cons_succ, List.setIfInBounds_toArray, List.set_cons_zero, List.set_cons_succ]
        refine wpL_ready (rs := [51]) (by kernel_rfl) (by simp) (AllL.late rfl (by kernel_rfl) (fun K hK => ?_) AllL.nil)
        go_simp
        refine hK.out _ _ ?_
        clear hK K
        try simp only [Act.put, List.getElem_toArray, List.getElem_cons_zero, List.getElem_cons_succ, List.setIfInBounds_toArray, List.set_cons_zero, List.set_cons_succ]
        refine wpL_done (by kernel_rfl) (NoPanic.normal ?_) _
        -- END 35
        obtain ⟨wZ, hwZ⟩ : ∃ wZ, wZ = w9.setCell ⟨g, 1, none⟩ (.slice A9 n9 c9) := ⟨_, rfl⟩
        have HY := Aside0.mk HYT.out.2
        rw [← hwZ] at HY ⊢
        have htk : tz = taskOf p.l := by
         rw [HTZ.out]
         unfold taskOf rd_T46
         simp only [HLg.out _ (show 1 < 13 by decide), HLg.out _ (show 2 < 13 by decide), HLg.out _ (show 3 < 13 by decide), HLg.out _ (show 4 < 13 by decide), HLg.out _ (show 5 < 13 by decide), HLg.out _ (show 6 < 13 by decide), HLg.out _ (show 7 < 13 by decide), HLg.out _ (show 8 < 13 by decide), HLg.out _ (show 9 < 13 by decide), HLg.out _ (show 10 < 13 by decide), HLg.out _ (show 11 < 13 by decide), show Int.toNat 1 = 1 from rfl, show Int.toNat 2 = 2 from rfl, show Int.toNat 3 = 3 from rfl, show Int.toNat 4 = 4 from rfl, show Int.toNat 5 = 5 from rfl, show Int.toNat 6 = 6 from rfl, show Int.toNat 7 = 7 from rfl, show Int.toNat 8 = 8 from rfl, show Int.toNat 9 = 9 from rfl, show Int.toNat 10 = 10 from rfl, show Int.toNat 11 = 11 from rfl]
        have hx0 : x0 = p.l.getD 0 z46 := by
         rw [← HX0.out]
         exact HLg.out 0 (by decide)
        rw [htk, hx0] at HY
        clear hwZ htk hx0 y0 y1 hs9 HYT HYM HS HTZ HX0 hs2 hs0' HN5 HMO
        -- END taskT
        -- BEGIN endsT
        have hsz : ge < wZ.heap.size := blk_lt HY.out.2.2.1
        have s0 : wZ.cell? ⟨ge, 0, none⟩ = some (.int .i64 t.f0) := blk_cell HY.out.2.2.1 0
        have s1 : wZ.cell? ⟨ge, 1, none⟩ = some (.string t.f1) := blk_cell HY.out.2.2.1 1
        have s2 : wZ.cell? ⟨ge, 2, none⟩ = some (.int .i64 t.f2) := blk_cell HY.out.2.2.1 2
        have s3 : wZ.cell? ⟨ge, 3, none⟩ = some (.int .i64 t.f3) := blk_cell HY.out.2.2.1 3
        have s4 : wZ.cell? ⟨ge, 4, none⟩ = some (.int .i64 t.f4) := blk_cell HY.out.2.2.1 4
        cases gk with
        | zero => exact absurd HK.out.2.2.2.1 (Nat.not_lt_zero _)
        | succ k1 =>
        by_cases h44 : t.f0 = 4
        ·have b9 : (t.f0 == 4) = true := beq_iff_eq.2 h44
         have H44 := Aside0.mk h44
         clear h44
         go_wp2_with fail
         go_roundg k1
         case measure => omega
         case rel =>
          skip
          refine ⟨some ⟨wZ.heap.size, 0, none⟩, 1, _, _, _, ?_, ?_, ⟨(HY.out.alloc _).back HG.out [t] (C_lit_tok wZ _ rfl t) (Nat.le_refl 1)⟩, ⟨HK.out.task HN0.out HL1.out HFB.out [t] (.inl (by have h4 := H44.out; have hT := HT.out; rw [← hT]; exact ⟨h4, rfl⟩))⟩⟩
          ·rfl
          ·have h1 := HM.out; show _ = Value.int .i64 (((n + 1 : Nat)) : Int); rw [h1]
        ·have b9 : (t.f0 == 4) = false := beq_eq_false_iff_ne.2 h44
         have H44 := Aside0.mk h44
         clear h44
         go_wp2_with fail
         go_roundg k1
         case measure => omega
         case rel =>
          skip
          have hd : lineLen p.l = L.length := HLN.out.symm
          refine ⟨A4, c - 13, _, _, _, ?_, ?_, ⟨HY.out.back HG.out (p.l.drop L.length) (Kd.C_below (HCT0.out HCW.out) HY.out.2.2.2.2.2) (by have h1 := HXE.out.2.2.1; have h2 := HL13.out.2; rw [List.length_drop]; omega)⟩, ⟨HK.out.task HN0.out HL1.out HFB.out (p.l.drop L.length) (.inr (by have h4 := H44.out; have hT := HT.out; rw [← hT, hd]; exact ⟨h4, rfl, HCT0.out⟩))⟩⟩
          ·have h2 := HL13.out.2; show _ = Value.slice A4 (p.l.drop L.length).length _; rw [List.length_drop, h2]
          ·have h1 := HM.out; show _ = Value.int .i64 (((n + 1 : Nat)) : Int); rw [h1]
        -- END endsT
 ·have he0 : (T.2.1 == 0) = false := beq_eq_false_iff_ne.2 he
  have he1 : (T.2.1 != 0) = true := bne_iff_ne.2 he
  have HE := Aside0.mk he
  clear he
  have x0 : ∀ v0 v1 v2 : Value, (wA.alloc (.cells #[v0, v1, v2] 29 (0, 0))).cell? ⟨wA.heap.size, 0, none⟩ = some v0 := fun v0 v1 v2 => blk_cell (blk_new wA _) 0
  go_wp2_with fail
  obtain ⟨wB, hwB⟩ : ∃ wB, wB = wA.alloc (.cells #[.int .i64 T.2.1, .int .i64 T.2.2.1, .int .i64 T.2.2.2] 29 (0, 0)) := ⟨_, rfl⟩
  rw [← hwB]
  have HBB : Aside0 (Below W.heap.size W wB) := ⟨by rw [hwB]; exact below_alloc HBA.out _⟩
  have HN : Aside0 (wB.heap[wA.heap.size]? = some (.cells #[.int .i64 T.2.1, .int .i64 T.2.2.1, .int .i64 T.2.2.2] 29 (0, 0))) := ⟨by rw [hwB]; exact blk_new wA _⟩
  have HG0B : Aside0 (wB.heap[gs]? = some (.cells #[.int .i64 0, .slice none 0 0] 26 (0, 0))) := ⟨by rw [hwB]; exact blk_alloc HG0A.out _⟩
  have HG1B : Aside0 (wB.heap[gs + 1]? = some (.cells #[.int .i64 0, .int .i64 0, .int .i64 0] 29 (0, 0))) := ⟨by rw [hwB]; exact blk_alloc HG1A.out _⟩
  obtain ⟨gn, hgn⟩ : ∃ gn, wA.heap.size = gn := ⟨_, rfl⟩
  have hl1 := blk_lt HG1A.out
  rw [hgn] at HN hl1 ⊢
  clear hwB hgn x0
  have y0 : wB.cell? ⟨gn, 0, none⟩ = some (.int .i64 T.2.1) := blk_cell HN.out 0
  have y1 : wB.cell? ⟨gn, 1, none⟩ = some (.int .i64 T.2.2.1) := blk_cell HN.out 1
  have y2 : wB.cell? ⟨gn, 2, none⟩ = some (.int .i64 T.2.2.2) := blk_cell HN.out 2
  have f0 : wB.frozen? ⟨gs, 0, none⟩ = false := blk_frozen HG0B.out 0
  have f1 : wB.frozen? ⟨gs, 1, none⟩ = false := blk_frozen HG0B.out 1
  have z0 : wB.cell? ⟨gs, 0, none⟩ = some (.int .i64 0) := blk_cell HG0B.out 0
  have z1 : wB.cell? ⟨gs, 1, none⟩ = some (.slice none 0 0) := blk_cell HG0B.out 1
  have g0 : wB.frozen? ⟨gs + 1, 0, none⟩ = false := blk_frozen HG1B.out 0
  have g1 : wB.frozen? ⟨gs + 1, 1, none⟩ = false := blk_frozen HG1B.out 1
  have g2 : wB.frozen? ⟨gs + 1, 2, none⟩ = false := blk_frozen HG1B.out 2
  have v0 : wB.cell? ⟨gs + 1, 0, none⟩ = some (.int .i64 0) := blk_cell HG1B.out 0
  have v1 : wB.cell? ⟨gs + 1, 1, none⟩ = some (.int .i64 0) := blk_cell HG1B.out 1
  have v2 : wB.cell? ⟨gs + 1, 2, none⟩ = some (.int .i64 0) := blk_cell HG1B.out 2
  have n1 : gn ≠ gs := by omega
  have n2 : gn ≠ gs + 1 := by omega
  have n3 : gs + 1 ≠ gs := by omega
  go_region
  go_wp2
  have hso := set_out HG0B.out HG1B.out (.int .i64 0) (.slice none 0 0) (.int .i64 T.2.1) (.int .i64 T.2.2.1) (.int .i64 T.2.2.2)
  refine bodyPost_ret (results_cc rfl _ _ gs (gs + 1) _ _ #[.int .i64 0, .slice none 0 0] #[.int .i64 T.2.1, .int .i64 T.2.2.1, .int .i64 T.2.2.2] (0, 0) (0, 0) _ _ rfl hso.1 Tryd.underlying26 rfl (by kernel_rfl) rfl hso.2 Tryd.underlying29 rfl (by kernel_rfl)) rfl ?_
  rw [HPF.out, if_neg HE.out]
  exact ⟨_, rfl, Kd.R_nil _ _ _ _ _, below_drew (set_below HBB.out (by rw [HGS.out]; exact Nat.le_refl _) _ _ _ _ _)⟩
theorem pendulumref06_Set.calls (A0 : Option Addr) (c0 : Nat) (l0 : List Int) (r1 : Int) (r2 : List (S40)) (r3 : Int) (r4 : Int) (r5 : Int) (w : World) (hr0 : Kd.C (Kd.int .u8) w A0 l0.length l0) (hc0 : l0.length ≤ c0) (h : pendulumref06_Set.f l0 = some (r1, r2, r3, r4, r5)) :
  Calls Tryd.prog 11 #[.slice A0 l0.length c0] w fun e w' => ∃ v0_ : Value, e = .returned (.tuple #[.agg #[.int .i64 r1, v0_], .agg #[.int .i64 r3, .int .i64 r4, .int .i64 r5]]) ∧ Kd.R k40 40 w' w.heap.size (fun _ => True) v0_ r2 ∧ Below w.heap.size w w' := by
 unfold pendulumref06_Set.f at h
 split at h
 case isFalse => exact absurd h (by simp)
 case isTrue hcond =>
 have h2 := Option.some.inj h
 have e1 : (parseF l0).1 = r1 := by rw [h2]
 have e2 : (parseF l0).2.1 = r2 := by rw [h2]
 have e3 : (parseF l0).2.2.1 = r3 := by rw [h2]
 have e4 : (parseF l0).2.2.2.1 = r4 := by rw [h2]
 have e5 : (parseF l0).2.2.2.2 = r5 := by rw [h2]
 rw [← e1, ← e2, ← e3, ← e4, ← e5]
 exact ref_ask A0 c0 l0 w hr0 hc0 hcond.1 hcond.2
end Go.Proofs.YtddbkcfdfgehkaaDoor.Q
