-- The parser in memory, and its small functions: walked by hand.
-- HAND (*pendulum/parse.parser).now rounds=0 making=1
-- HAND (*pendulum/parse.parser).fail rounds=0 making=1
-- NEEDS slices.Contains[[]string,string]
import Derived.Test.YtddbkcfdfgehkaaDoorQ0
import Derived.Test.YtddbkcfdfgehkaaDoorQ6
import Derived.Test.YtddbkcfdfgehkaaDoorLpars
import Derived.Test.YtddbkcfdfgehkaaDoorLparsB
import Derived.Test.YtddbkcfdfgehkaaDoorLpars
import Derived.Test.YtddbkcfdfgehkaaDoorLparsB
import Derived.WalkSpells
import Derived.IntWalk
namespace Go.Proofs.YtddbkcfdfgehkaaDoor.Q
open Go.RowKit Go.Proofs.YtddbkcfdfgehkaaDoorW.PrintWords Go.Proofs.YtddbkcfdfgehkaaDoorW.PrintLast Go.Proofs.YtddbkcfdfgehkaaDoorW.PrintMore
attribute [local go_sem] max2_int min2_int max_two min_two max_three min_three max_four min_four   -- for this text's walks alone
set_option linter.unusedVariables false
set_option linter.unusedSimpArgs false

def tokC (t : TOK) : Array Value := #[.int .i64 t.f0, .string t.f1, .int .i64 t.f2, .int .i64 t.f3, .int .i64 t.f4]
def prsC (A : Option Addr) (c : Nat) (vts vhs : Value) (p : PS) : Array Value := #[.slice A p.l.length c, .int .i64 p.e, .int .i64 p.ln, .int .i64 p.cl, .int .i64 p.b, vts, .int .i64 p.bt.f0, .string p.bt.f1, .int .i64 p.bt.f2, .int .i64 p.bt.f3, .int .i64 p.bt.f4, vhs]
def PrsX (w0 : World) (ok : Nat → Prop) (W : World) (g : Nat) (A : Option Addr) (c : Nat) (vts vhs : Value) (p : PS) : Prop :=
  W.heap[g]? = some (.cells (prsC A c vts vhs p) 48 (0, 0)) ∧ w0.heap.size ≤ g ∧ p.l.length ≤ c ∧ Kd.C k46 w0 A p.l.length p.l ∧ Kd.R k40 40 W w0.heap.size ok vts p.ts ∧ Kd.R k46 46 W w0.heap.size ok vhs p.hs ∧ Below w0.heap.size w0 W
theorem tok_f1 (a : Int) (b : ByteArray) (c d e : Int) (w : World) : (Instr.field 46 (.agg #[.int .i64 a, .string b, .int .i64 c, .int .i64 d, .int .i64 e]) 1).run Tryd.prog w = .ok (.string b) w := by kernel_rfl
theorem tok_f2 (a : Int) (b : ByteArray) (c d e : Int) (w : World) : (Instr.field 46 (.agg #[.int .i64 a, .string b, .int .i64 c, .int .i64 d, .int .i64 e]) 2).run Tryd.prog w = .ok (.int .i64 c) w := by kernel_rfl
theorem tok_f3 (a : Int) (b : ByteArray) (c d e : Int) (w : World) : (Instr.field 46 (.agg #[.int .i64 a, .string b, .int .i64 c, .int .i64 d, .int .i64 e]) 3).run Tryd.prog w = .ok (.int .i64 d) w := by kernel_rfl
theorem tok_f4 (a : Int) (b : ByteArray) (c d e : Int) (w : World) : (Instr.field 46 (.agg #[.int .i64 a, .string b, .int .i64 c, .int .i64 d, .int .i64 e]) 4).run Tryd.prog w = .ok (.int .i64 e) w := by kernel_rfl
attribute [local go_sem] tok_f1 tok_f2 tok_f3 tok_f4
section
variable {w0 W W' : World} {ok : Nat → Prop} {g : Nat} {A : Option Addr} {c : Nat} {vts vhs : Value} {p : PS}
theorem addr_zero (a : Addr) : a.add 0 = a := by unfold Addr.add; split <;> simp_all
theorem PrsX.below (h : PrsX w0 ok W g A c vts vhs p) (hb : Below W.heap.size W W') : PrsX w0 ok W' g A c vts vhs p :=
  ⟨blk_below h.1 hb, h.2.1, h.2.2.1, h.2.2.2.1, Kd.R_below h.2.2.2.2.1 hb, Kd.R_below h.2.2.2.2.2.1 hb, below_step h.2.2.2.2.2.2 hb⟩
theorem PrsX.out_below (h : PrsX w0 ok W g A c vts vhs p) : Below w0.heap.size w0 W := h.2.2.2.2.2.2
theorem PrsX.put (h : PrsX w0 ok W g A c vts vhs p) (j : Nat) (u : Value) {A' : Option Addr} {c' : Nat} {p' : PS} (hc : (prsC A c vts vhs p).setIfInBounds j u = prsC A' c' vts vhs p') (hl : p'.l.length ≤ c') (hC : Kd.C k46 w0 A' p'.l.length p'.l) (hts : p'.ts = p.ts) (hhs : p'.hs = p.hs) :
    PrsX w0 ok (W.setCell ⟨g, j, none⟩ u) g A' c' vts vhs p' :=
  ⟨by rw [← hc]; exact blk_put h.1 j u rfl, h.2.1, hl, hC, by rw [hts]; exact Kd.R_set h.2.2.2.2.1 h.1 (by decide) j u, by rw [hhs]; exact Kd.R_set h.2.2.2.2.2.1 h.1 (by decide) j u, h.2.2.2.2.2.2.setCell h.2.1 u⟩
theorem PrsX.mono {ok' : Nat → Prop} (h : PrsX w0 ok W g A c vts vhs p) (hs : ∀ k, ok k → ok' k) : PrsX w0 ok' W g A c vts vhs p :=
  ⟨h.1, h.2.1, h.2.2.1, h.2.2.2.1, Kd.R_mono h.2.2.2.2.1 hs, Kd.R_mono h.2.2.2.2.2.1 hs, h.2.2.2.2.2.2⟩
theorem PrsX.bound (h : PrsX w0 ok W g A c vts vhs p) : PrsX w0 (fun k => ok k ∧ k < W.heap.size) W g A c vts vhs p :=
  ⟨h.1, h.2.1, h.2.2.1, h.2.2.2.1, Kd.R_mono (Kd.R_bound h.2.2.2.2.1) (fun k hk => ⟨hk.1, hk.2.2.1⟩), Kd.R_mono (Kd.R_bound h.2.2.2.2.2.1) (fun k hk => ⟨hk.1, hk.2.2.1⟩), h.2.2.2.2.2.2⟩
theorem PrsX.far (h : PrsX w0 ok W g A c vts vhs p) {q : Nat} (hq : q ≠ g) (hok : ∀ k, ok k → k ≠ q) (hw : w0.heap.size ≤ q) (j : Nat) (u : Value) : PrsX w0 ok (W.setCell ⟨q, j, none⟩ u) g A c vts vhs p :=
  ⟨(Below.heap_setCell W ⟨q, j, none⟩ u g (Ne.symm hq)).trans h.1, h.2.1, h.2.2.1, h.2.2.2.1, Kd.R_far h.2.2.2.2.1 hok u, Kd.R_far h.2.2.2.2.2.1 hok u, h.2.2.2.2.2.2.setCell hw u⟩
theorem infoTok : ∃ i, Tryd.prog.info? 46 = some i ∧ i.size = 5 := by
  obtain ⟨i, h1, _, h3, _⟩ := info_parts (show (Tryd.prog.info? 46).map (fun i => (i.zero, i.size, i.bytes)) = some (some (.agg #[.int .i64 0, .string ⟨#[]⟩, .int .i64 0, .int .i64 0, .int .i64 0]), 5, 48) by kernel_rfl)
  exact ⟨i, h1, h3⟩
set_option maxHeartbeats 1000000 in
set_option maxRecDepth 100000 in
theorem now_ask (h : PrsX w0 ok W g A c vts vhs p) (hl : p.l ≠ []) :
    Calls Tryd.prog 19 #[.pointer (some ⟨g, 0, none⟩)] W fun e W' => e = .returned (.agg (tokC p.now)) ∧ Below W.heap.size W W' := by
  have hpos : 0 < p.l.length := List.length_pos_iff.2 hl
  have x0 : W.cell? ⟨g, 0, none⟩ = some (.slice A p.l.length c) := blk_cell h.1 0
  obtain ⟨ad, e, y0, y1, y2, y3, y4⟩ := at_T46 (Kd.C_below h.2.2.2.1 h.out_below) 0 (by omega) (by omega)
  cases e
  have HN : Aside0 (rd_T46 p.l 0 = p.now) := ⟨by unfold PS.now rd_T46; cases hp : p.l with | nil => exact absurd hp hl | cons a r => rfl⟩
  rw [HN.out] at y0 y1 y2 y3 y4
  have HB := Aside0.mk (Below.refl W.heap.size W)
  obtain ⟨t, ht⟩ : ∃ t, p.now = t := ⟨_, rfl⟩
  rw [ht] at y0 y1 y2 y3 y4 ⊢
  obtain ⟨n, hn⟩ : ∃ n, p.l.length = n := ⟨_, rfl⟩
  rw [hn] at x0 hpos
  have p0 : (0 : Int) < (n : Int) := by omega
  simp only [show (0 : Int).toNat * 5 = 0 from rfl, addr_zero] at y0 y1 y2 y3 y4
  have x0' := fun o => pw_cell_below (below_alloc (Below.refl _ W) o) x0
  have y0' := fun o => pw_cell_below (below_alloc (Below.refl _ W) o) y0
  have y1' := fun o => pw_cell_below (below_alloc (Below.refl _ W) o) y1
  have y2' := fun o => pw_cell_below (below_alloc (Below.refl _ W) o) y2
  have y3' := fun o => pw_cell_below (below_alloc (Below.refl _ W) o) y3
  have y4' := fun o => pw_cell_below (below_alloc (Below.refl _ W) o) y4
  clear h hl HN ht hn x0 y0 y1 y2 y3 y4
  go_enter Tryd.func19, Tryd.ntmps19
  go_wp2
  refine bodyPost_ret (results_cell_row rfl _ _ W.heap.size 46 (tokC t) (0, 0) _ rfl (blk_new W _) Tryd.underlying46 rfl (by kernel_rfl)) rfl ?_
  exact ⟨rfl, by repeat (first | exact HB.out | apply below_drew | apply below_alloc)⟩
set_option maxHeartbeats 1000000 in
set_option maxRecDepth 100000 in
theorem fail_ask (h : PrsX w0 ok W g A c vts vhs p) (hl : p.l ≠ []) :
    Calls Tryd.prog 45 #[.pointer (some ⟨g, 0, none⟩)] W fun e W' => e = .returned (.tuple #[]) ∧ PrsX w0 ok W' g A c vts vhs p.fail ∧ Kept W W' (fun k => k = g) := by
  have x1 : W.cell? ⟨g, 1, none⟩ = some (.int .i64 p.e) := blk_cell h.1 1
  have HX := Aside0.mk h
  have HL := Aside0.mk hl
  clear h hl
  by_cases he : p.e = 0
  · have heq : (p.e == 0) = true := beq_iff_eq.2 he
    have HE := Aside0.mk he
    clear he
    go_enter Tryd.func45, Tryd.ntmps45
    go_wp2_with fail
    refine (now_ask HX.out HL.out).mono ?_
    rintro e wA ⟨rfl, hb⟩
    have HXA := Aside0.mk (HX.out.below hb)
    have HBA := Aside0.mk hb
    unfold tokC
    clear hb x1
    go_wp2_with fail
    refine (now_ask HXA.out HL.out).mono ?_
    rintro e wB ⟨rfl, hb⟩
    have HXB := Aside0.mk (HXA.out.below hb)
    have HBB := Aside0.mk (below_step HBA.out hb)
    have x1 : wB.cell? ⟨g, 1, none⟩ = some (.int .i64 p.e) := blk_cell HXB.out.1 1
    have x2 : wB.cell? ⟨g, 2, none⟩ = some (.int .i64 p.ln) := blk_cell HXB.out.1 2
    have x3 : wB.cell? ⟨g, 3, none⟩ = some (.int .i64 p.cl) := blk_cell HXB.out.1 3
    have f1 := blk_frozen HXB.out.1 1
    have f2 := blk_frozen HXB.out.1 2
    have f3 := blk_frozen HXB.out.1 3
    unfold tokC
    clear hb HXA HBA
    go_wp2_with fail
    first | go_end0 | ((try simp only [Exit.inBlock, Exit.then]); refine bodyPost_ret (results_none rfl _ _ _) rfl ?_)
    have h1 := HXB.out.put 1 (.int .i64 5) (A' := A) (c' := c) (p' := { p with e := 5 }) rfl HXB.out.2.2.1 HXB.out.2.2.2.1 rfl rfl
    have h2 := h1.put 2 (.int .i64 p.now.f3) (A' := A) (c' := c) (p' := { p with e := 5, ln := p.now.f3 }) rfl HXB.out.2.2.1 HXB.out.2.2.2.1 rfl rfl
    have h3 := h2.put 3 (.int .i64 p.now.f4) (A' := A) (c' := c) (p' := { p with e := 5, ln := p.now.f3, cl := p.now.f4 }) rfl HXB.out.2.2.1 HXB.out.2.2.2.1 rfl rfl
    refine ⟨rfl, ?_, (((Kept.of_below HBB.out (fun k => k = g)).setCell (p := ⟨g, 1, none⟩) (.inl rfl) _).setCell (p := ⟨g, 2, none⟩) (.inl rfl) _).setCell (p := ⟨g, 3, none⟩) (.inl rfl) _⟩
    unfold PS.fail
    rw [if_pos HE.out]
    exact h3
  · have heq : (p.e == 0) = false := beq_eq_false_iff_ne.2 he
    have HE := Aside0.mk he
    clear he
    go_enter Tryd.func45, Tryd.ntmps45
    go_wp2_with fail
    first | go_end0 | ((try simp only [Exit.inBlock, Exit.then]); refine bodyPost_ret (results_none rfl _ _ _) rfl ?_)
    exact ⟨rfl, by unfold PS.fail; rw [if_neg HE.out]; exact HX.out, Kept.refl _ _⟩
set_option maxHeartbeats 2000000 in
set_option maxRecDepth 100000 in
theorem take_ask (h : PrsX w0 ok W g A c vts vhs p) (hl : p.l ≠ []) (kind : Int) (At : Option Addr) (ct : Nat) (texts : List ByteArray) (ht : Kd.C Kd.string W At texts.length texts) (hct : texts.length ≤ ct) (htl : texts.length ≤ 1000000) :
    Calls Tryd.prog 31 #[.pointer (some ⟨g, 0, none⟩), .int .i64 kind, .slice At texts.length ct] W fun e W' => e = .returned (.agg (tokC (p.take kind texts).2)) ∧ (∃ A' c', PrsX w0 ok W' g A' c' vts vhs (p.take kind texts).1) ∧ Kept W W' (fun k => k = g) := by
  obtain ⟨W1, hW1⟩ : ∃ W1, W1 = W.alloc (.cells (tokC z46) 46 (0, 0)) := ⟨_, rfl⟩
  have hb1 : Below W.heap.size W W1 := by rw [hW1]; exact below_alloc (Below.refl _ _) _
  have HX := Aside0.mk (h.bound.below hb1)
  have HWS : Aside0 (w0.heap.size ≤ W.heap.size) := ⟨h.out_below.size⟩
  have HB1 := Aside0.mk hb1
  have HR1 : Aside0 (W1.heap[W.heap.size]? = some (.cells (tokC z46) 46 (0, 0))) := ⟨by rw [hW1]; exact blk_new W _⟩
  have HT := Aside0.mk (Kd.C_below ht hb1)
  have HL := Aside0.mk hl
  have HGL : Aside0 (g < W.heap.size) := ⟨blk_lt h.1⟩
  have HW1 := Aside0.mk hW1
  clear h hl ht hb1 hW1
  go_enter Tryd.func31, Tryd.ntmps31
  go_wp2_with fail
  have hnow := now_ask HX.out HL.out
  rw [HW1.out] at hnow
  refine hnow.mono ?_
  rintro e wA ⟨rfl, hb⟩
  have hb2 : Below W1.heap.size W1 wA := by rw [HW1.out]; exact hb
  obtain ⟨gt, hgt⟩ : ∃ gt, wA.heap.size = gt := ⟨_, rfl⟩
  obtain ⟨wB, hwB⟩ : ∃ wB, wB = wA.alloc (.cells (tokC p.now) 46 (0, 0)) := ⟨_, rfl⟩
  have hb3 : Below W1.heap.size W1 wB := by rw [hwB]; exact below_alloc hb2 _
  have HXB := Aside0.mk (HX.out.below hb3)
  have HRB := Aside0.mk (blk_below HR1.out hb3)
  have HTB := Aside0.mk (Kd.C_below HT.out hb3)
  have HTT : Aside0 (wB.heap[gt]? = some (.cells (tokC p.now) 46 (0, 0))) := ⟨by rw [hwB, ← hgt]; exact blk_new wA _⟩
  have HBB := Aside0.mk (below_step HB1.out hb3)
  have HWB := Aside0.mk hwB
  have HGT : Aside0 (gt ≠ W.heap.size ∧ gt ≠ g) := ⟨by have h1 := hb2.size; have h2 : W1.heap.size = W.heap.size + 1 := (by rw [HW1.out]; simp); have h3 := HGL.out; omega⟩
  clear hnow hb hb2 hb3 hwB HX HR1 HT HB1
  unfold tokC
  unfold tokC at HWB
  have x1 : wB.cell? ⟨g, 1, none⟩ = some (.int .i64 p.e) := blk_cell HXB.out.1 1
  have t0 : wB.cell? ⟨gt, 0, none⟩ = some (.int .i64 p.now.f0) := blk_cell HTT.out 0
  have t1 : wB.cell? ⟨gt, 1, none⟩ = some (.string p.now.f1) := blk_cell HTT.out 1
  rw [HWB.out] at x1 t0 t1
  by_cases he : p.e = 0
  · rw [he] at x1
    have HE := Aside0.mk he
    clear he
    by_cases hk : p.now.f0 = kind
    · subst hk
      by_cases hte : texts.length = 0
      · have HTK : Aside0 (p.fits p.now.f0 texts = true) := ⟨by unfold PS.fits; rw [HE.out, List.eq_nil_of_length_eq_zero hte]; simp⟩
        have x0 : wB.cell? ⟨g, 0, none⟩ = some (.slice A p.l.length c) := blk_cell HXB.out.1 0
        have g0 := blk_frozen HXB.out.1 0
        have hpos : 1 ≤ p.l.length := List.length_pos_iff.2 HL.out
        obtain ⟨iT, hiT, hsT⟩ := infoTok
        have hcut := cut_from (P := Tryd.prog) 41 46 .i64 Tryd.underlying41 hiT 5 hsT A p.l.length c (1 : Int) (by omega) (by omega)
        simp only [show (1 : Int).toNat = 1 from rfl, Nat.one_mul] at hcut
        obtain ⟨A4, hA4⟩ : ∃ A4, (if c = 1 then A else A.map (·.add 5)) = A4 := ⟨_, rfl⟩
        rw [hA4] at hcut
        have HCT : Aside0 (Kd.C k46 w0 A4 p.l.tail.length p.l.tail) := ⟨by
          have h := Kd.C_drop (c := c) HXB.out.2.2.2.1 hpos HXB.out.2.2.1
          rw [List.drop_one] at h
          have e1 : (if c = 1 then A else A.map (·.add (1 * (k46).sz))) = A4 := hA4
          rwa [e1] at h⟩
        have r0 : wB.cell? ⟨W.heap.size, 0, none⟩ = some (.int .i64 0) := blk_cell HRB.out 0
        have r1 : wB.cell? ⟨W.heap.size, 1, none⟩ = some (.string ⟨#[]⟩) := blk_cell HRB.out 1
        have r2 : wB.cell? ⟨W.heap.size, 2, none⟩ = some (.int .i64 0) := blk_cell HRB.out 2
        have r3 : wB.cell? ⟨W.heap.size, 3, none⟩ = some (.int .i64 0) := blk_cell HRB.out 3
        have r4 : wB.cell? ⟨W.heap.size, 4, none⟩ = some (.int .i64 0) := blk_cell HRB.out 4
        have f0 := blk_frozen HRB.out 0
        have f1 := blk_frozen HRB.out 1
        have f2 := blk_frozen HRB.out 2
        have f3 := blk_frozen HRB.out 3
        have f4 := blk_frozen HRB.out 4
        have t2 : wB.cell? ⟨gt, 2, none⟩ = some (.int .i64 p.now.f2) := blk_cell HTT.out 2
        have t3 : wB.cell? ⟨gt, 3, none⟩ = some (.int .i64 p.now.f3) := blk_cell HTT.out 3
        have t4 : wB.cell? ⟨gt, 4, none⟩ = some (.int .i64 p.now.f4) := blk_cell HTT.out 4
        have n1 : gt ≠ g := HGT.out.2
        have n2 : W.heap.size ≠ g := by have := HGL.out; omega
        clear hA4 hpos
        rw [HWB.out] at x0 g0 r0 r1 r2 r3 r4 f0 f1 f2 f3 f4 t2 t3 t4
        go_wp2_with fail
        rw [← HWB.out]
        refine bodyPost_ret (results_cell_row rfl _ _ W.heap.size 46 (tokC p.now) (0, 0) _ rfl (blk_put (blk_put (blk_put (blk_put (blk_put ((Below.heap_setCell wB ⟨g, 0, none⟩ _ W.heap.size n2).trans HRB.out) 0 _ rfl) 1 _ rfl) 2 _ rfl) 3 _ rfl) 4 _ rfl) Tryd.underlying46 rfl (by kernel_rfl)) rfl ?_
        have hok : ∀ k, (ok k ∧ k < W.heap.size) → k ≠ W.heap.size := fun k hk => by have := hk.2; omega
        have hX1 := HXB.out.put 0 (.slice A4 (p.l.length - 1) (c - 1)) (A' := A4) (c' := c - 1) (p' := { p with l := p.l.tail }) (by unfold prsC; simp) (by have := HXB.out.2.2.1; simp; omega) HCT.out rfl rfl
        refine ⟨by unfold PS.take; rw [if_pos HTK.out], ⟨A4, c - 1, ?_⟩, ?_⟩
        · unfold PS.take; rw [if_pos HTK.out]
          exact (((((hX1.far n2 hok HWS.out 0 _).far n2 hok HWS.out 1 _).far n2 hok HWS.out 2 _).far n2 hok HWS.out 3 _).far n2 hok HWS.out 4 _).mono (fun k hk => hk.1)
        · exact (((((((Kept.of_below HBB.out (fun k => k = g)).setCell (p := ⟨g, 0, none⟩) (.inl rfl) _).setCell (p := ⟨W.heap.size, 0, none⟩) (.inr (Nat.le_refl _)) _).setCell (p := ⟨W.heap.size, 1, none⟩) (.inr (Nat.le_refl _)) _).setCell (p := ⟨W.heap.size, 2, none⟩) (.inr (Nat.le_refl _)) _).setCell (p := ⟨W.heap.size, 3, none⟩) (.inr (Nat.le_refl _)) _).setCell (p := ⟨W.heap.size, 4, none⟩) (.inr (Nat.le_refl _)) _)
      · have hlp : 0 < texts.length := Nat.pos_of_ne_zero hte
        have HHT := Aside0.mk hte
        have hle : decide ((texts.length : Int) > 0) = true := by simp; omega
        obtain ⟨bc, hbc⟩ : ∃ bc, texts.any (fun y => y.toList == p.now.f1.toList) = bc := ⟨_, rfl⟩
        have HBC := Aside0.mk hbc
        have htb := HTB.out
        rw [HWB.out] at htb
        have HTC := Aside0.mk htb
        clear hbc htb hte
        go_wp2_with fail
        refine (slices_Contains_string_string.calls (texts.length + 1) At ct texts p.now.f1 bc _ HTC.out hct (by rw [contains_eq texts p.now.f1 htl, HBC.out])).mono ?_
        rintro e wC ⟨rfl, hd⟩
        have hb := hd.below
        rw [← HWB.out] at hb
        have HXC := Aside0.mk (HXB.out.below hb)
        have HRC := Aside0.mk (blk_below HRB.out hb)
        have HTTC := Aside0.mk (blk_below HTT.out hb)
        have HBBC := Aside0.mk (below_step HBB.out hb)
        clear hd hb HXB HRB HTT HBB x1 t0 t1 HTB HTC
        have HXB := HXC
        have HRB := HRC
        have HTT := HTTC
        have HBB := HBBC
        clear HXC HRC HTTC HBBC
        cases bc with
        | true =>
          have HTK : Aside0 (p.fits p.now.f0 texts = true) := ⟨by unfold PS.fits; rw [HE.out, HBC.out]; simp⟩
          have x0 : wC.cell? ⟨g, 0, none⟩ = some (.slice A p.l.length c) := blk_cell HXB.out.1 0
          have g0 := blk_frozen HXB.out.1 0
          have hpos : 1 ≤ p.l.length := List.length_pos_iff.2 HL.out
          obtain ⟨iT, hiT, hsT⟩ := infoTok
          have hcut := cut_from (P := Tryd.prog) 41 46 .i64 Tryd.underlying41 hiT 5 hsT A p.l.length c (1 : Int) (by omega) (by omega)
          simp only [show (1 : Int).toNat = 1 from rfl, Nat.one_mul] at hcut
          obtain ⟨A4, hA4⟩ : ∃ A4, (if c = 1 then A else A.map (·.add 5)) = A4 := ⟨_, rfl⟩
          rw [hA4] at hcut
          have HCT : Aside0 (Kd.C k46 w0 A4 p.l.tail.length p.l.tail) := ⟨by
            have h := Kd.C_drop (c := c) HXB.out.2.2.2.1 hpos HXB.out.2.2.1
            rw [List.drop_one] at h
            have e1 : (if c = 1 then A else A.map (·.add (1 * (k46).sz))) = A4 := hA4
            rwa [e1] at h⟩
          have r0 : wC.cell? ⟨W.heap.size, 0, none⟩ = some (.int .i64 0) := blk_cell HRB.out 0
          have r1 : wC.cell? ⟨W.heap.size, 1, none⟩ = some (.string ⟨#[]⟩) := blk_cell HRB.out 1
          have r2 : wC.cell? ⟨W.heap.size, 2, none⟩ = some (.int .i64 0) := blk_cell HRB.out 2
          have r3 : wC.cell? ⟨W.heap.size, 3, none⟩ = some (.int .i64 0) := blk_cell HRB.out 3
          have r4 : wC.cell? ⟨W.heap.size, 4, none⟩ = some (.int .i64 0) := blk_cell HRB.out 4
          have f0 := blk_frozen HRB.out 0
          have f1 := blk_frozen HRB.out 1
          have f2 := blk_frozen HRB.out 2
          have f3 := blk_frozen HRB.out 3
          have f4 := blk_frozen HRB.out 4
          have t0 : wC.cell? ⟨gt, 0, none⟩ = some (.int .i64 p.now.f0) := blk_cell HTT.out 0
          have t1 : wC.cell? ⟨gt, 1, none⟩ = some (.string p.now.f1) := blk_cell HTT.out 1
          have t2 : wC.cell? ⟨gt, 2, none⟩ = some (.int .i64 p.now.f2) := blk_cell HTT.out 2
          have t3 : wC.cell? ⟨gt, 3, none⟩ = some (.int .i64 p.now.f3) := blk_cell HTT.out 3
          have t4 : wC.cell? ⟨gt, 4, none⟩ = some (.int .i64 p.now.f4) := blk_cell HTT.out 4
          have n1 : gt ≠ g := HGT.out.2
          have n2 : W.heap.size ≠ g := by have := HGL.out; omega
          clear hA4 hpos
          go_wp2_with fail
          refine bodyPost_ret (results_cell_row rfl _ _ W.heap.size 46 (tokC p.now) (0, 0) _ rfl (blk_put (blk_put (blk_put (blk_put (blk_put ((Below.heap_setCell wC ⟨g, 0, none⟩ _ W.heap.size n2).trans HRB.out) 0 _ rfl) 1 _ rfl) 2 _ rfl) 3 _ rfl) 4 _ rfl) Tryd.underlying46 rfl (by kernel_rfl)) rfl ?_
          have hok : ∀ k, (ok k ∧ k < W.heap.size) → k ≠ W.heap.size := fun k hk => by have := hk.2; omega
          have hX1 := HXB.out.put 0 (.slice A4 (p.l.length - 1) (c - 1)) (A' := A4) (c' := c - 1) (p' := { p with l := p.l.tail }) (by unfold prsC; simp) (by have := HXB.out.2.2.1; simp; omega) HCT.out rfl rfl
          refine ⟨by unfold PS.take; rw [if_pos HTK.out], ⟨A4, c - 1, ?_⟩, ?_⟩
          · unfold PS.take; rw [if_pos HTK.out]
            exact (((((hX1.far n2 hok HWS.out 0 _).far n2 hok HWS.out 1 _).far n2 hok HWS.out 2 _).far n2 hok HWS.out 3 _).far n2 hok HWS.out 4 _).mono (fun k hk => hk.1)
          · exact (((((((Kept.of_below HBB.out (fun k => k = g)).setCell (p := ⟨g, 0, none⟩) (.inl rfl) _).setCell (p := ⟨W.heap.size, 0, none⟩) (.inr (Nat.le_refl _)) _).setCell (p := ⟨W.heap.size, 1, none⟩) (.inr (Nat.le_refl _)) _).setCell (p := ⟨W.heap.size, 2, none⟩) (.inr (Nat.le_refl _)) _).setCell (p := ⟨W.heap.size, 3, none⟩) (.inr (Nat.le_refl _)) _).setCell (p := ⟨W.heap.size, 4, none⟩) (.inr (Nat.le_refl _)) _)
        | false =>
          have HTK : Aside0 (p.fits p.now.f0 texts = false) := ⟨by unfold PS.fits; rw [HE.out, HBC.out]; cases ht0 : texts with | nil => exact absurd (by rw [ht0]; rfl) HHT.out | cons a r => simp⟩
          go_wp2_with fail
          refine (fail_ask HXB.out HL.out).mono ?_
          rintro e wF ⟨rfl, hX, hk⟩
          have HXF := Aside0.mk hX
          have HKF : Aside0 (Kept W wF (fun k => k = g)) := ⟨⟨Nat.le_trans HBB.out.size hk.1, fun i hi hn => (hk.2 i (Nat.lt_of_lt_of_le hi HBB.out.size) hn).trans ((Kept.of_below HBB.out (fun k => k = g)).2 i hi hn)⟩⟩
          have HRF := Aside0.mk (blk_kept HRB.out hk (by have := HGL.out; omega))
          have r0 : wF.cell? ⟨W.heap.size, 0, none⟩ = some (.int .i64 0) := blk_cell HRF.out 0
          have r1 : wF.cell? ⟨W.heap.size, 1, none⟩ = some (.string ⟨#[]⟩) := blk_cell HRF.out 1
          have r2 : wF.cell? ⟨W.heap.size, 2, none⟩ = some (.int .i64 0) := blk_cell HRF.out 2
          have r3 : wF.cell? ⟨W.heap.size, 3, none⟩ = some (.int .i64 0) := blk_cell HRF.out 3
          have r4 : wF.cell? ⟨W.heap.size, 4, none⟩ = some (.int .i64 0) := blk_cell HRF.out 4
          have f0 := blk_frozen HRF.out 0
          have f1 := blk_frozen HRF.out 1
          have f2 := blk_frozen HRF.out 2
          have f3 := blk_frozen HRF.out 3
          have f4 := blk_frozen HRF.out 4
          clear hX hk
          go_wp2_with fail
          refine bodyPost_ret (results_cell_row rfl _ _ W.heap.size 46 (tokC z46) (0, 0) _ rfl (blk_put (blk_put (blk_put (blk_put (blk_put HRF.out 0 _ rfl) 1 _ rfl) 2 _ rfl) 3 _ rfl) 4 _ rfl) Tryd.underlying46 rfl (by kernel_rfl)) rfl ?_
          have hqg : W.heap.size ≠ g := by have := HGL.out; omega
          have hok : ∀ k, (ok k ∧ k < W.heap.size) → k ≠ W.heap.size := fun k hk => by have := hk.2; omega
          refine ⟨by unfold PS.take; rw [if_neg (by rw [HTK.out]; decide)], ⟨A, c, ?_⟩, ?_⟩
          · unfold PS.take; rw [if_neg (by rw [HTK.out]; decide)]
            exact (((((HXF.out.far hqg hok HWS.out 0 _).far hqg hok HWS.out 1 _).far hqg hok HWS.out 2 _).far hqg hok HWS.out 3 _).far hqg hok HWS.out 4 _).mono (fun k hk => hk.1)
          · exact ((((HKF.out.setCell (p := ⟨W.heap.size, 0, none⟩) (.inr (Nat.le_refl _)) _).setCell (p := ⟨W.heap.size, 1, none⟩) (.inr (Nat.le_refl _)) _).setCell (p := ⟨W.heap.size, 2, none⟩) (.inr (Nat.le_refl _)) _).setCell (p := ⟨W.heap.size, 3, none⟩) (.inr (Nat.le_refl _)) _).setCell (p := ⟨W.heap.size, 4, none⟩) (.inr (Nat.le_refl _)) _
    · have hnk : (p.now.f0 == kind) = false := beq_eq_false_iff_ne.2 hk
      have HTK : Aside0 (p.fits kind texts = false) := ⟨by unfold PS.fits; rw [hnk]; simp⟩
      go_wp2_with fail
      rw [← HWB.out]
      refine (fail_ask HXB.out HL.out).mono ?_
      rintro e wF ⟨rfl, hX, hk⟩
      have HXF := Aside0.mk hX
      have HKF : Aside0 (Kept W wF (fun k => k = g)) := ⟨⟨Nat.le_trans HBB.out.size hk.1, fun i hi hn => (hk.2 i (Nat.lt_of_lt_of_le hi HBB.out.size) hn).trans ((Kept.of_below HBB.out (fun k => k = g)).2 i hi hn)⟩⟩
      have HRF := Aside0.mk (blk_kept HRB.out hk (by have := HGL.out; omega))
      have r0 : wF.cell? ⟨W.heap.size, 0, none⟩ = some (.int .i64 0) := blk_cell HRF.out 0
      have r1 : wF.cell? ⟨W.heap.size, 1, none⟩ = some (.string ⟨#[]⟩) := blk_cell HRF.out 1
      have r2 : wF.cell? ⟨W.heap.size, 2, none⟩ = some (.int .i64 0) := blk_cell HRF.out 2
      have r3 : wF.cell? ⟨W.heap.size, 3, none⟩ = some (.int .i64 0) := blk_cell HRF.out 3
      have r4 : wF.cell? ⟨W.heap.size, 4, none⟩ = some (.int .i64 0) := blk_cell HRF.out 4
      have f0 := blk_frozen HRF.out 0
      have f1 := blk_frozen HRF.out 1
      have f2 := blk_frozen HRF.out 2
      have f3 := blk_frozen HRF.out 3
      have f4 := blk_frozen HRF.out 4
      clear hX hk
      go_wp2_with fail
      refine bodyPost_ret (results_cell_row rfl _ _ W.heap.size 46 (tokC z46) (0, 0) _ rfl (blk_put (blk_put (blk_put (blk_put (blk_put HRF.out 0 _ rfl) 1 _ rfl) 2 _ rfl) 3 _ rfl) 4 _ rfl) Tryd.underlying46 rfl (by kernel_rfl)) rfl ?_
      have hqg : W.heap.size ≠ g := by have := HGL.out; omega
      have hok : ∀ k, (ok k ∧ k < W.heap.size) → k ≠ W.heap.size := fun k hk => by have := hk.2; omega
      refine ⟨by unfold PS.take; rw [if_neg (by rw [HTK.out]; decide)], ⟨A, c, ?_⟩, ?_⟩
      · unfold PS.take; rw [if_neg (by rw [HTK.out]; decide)]
        exact (((((HXF.out.far hqg hok HWS.out 0 _).far hqg hok HWS.out 1 _).far hqg hok HWS.out 2 _).far hqg hok HWS.out 3 _).far hqg hok HWS.out 4 _).mono (fun k hk => hk.1)
      · exact ((((HKF.out.setCell (p := ⟨W.heap.size, 0, none⟩) (.inr (Nat.le_refl _)) _).setCell (p := ⟨W.heap.size, 1, none⟩) (.inr (Nat.le_refl _)) _).setCell (p := ⟨W.heap.size, 2, none⟩) (.inr (Nat.le_refl _)) _).setCell (p := ⟨W.heap.size, 3, none⟩) (.inr (Nat.le_refl _)) _).setCell (p := ⟨W.heap.size, 4, none⟩) (.inr (Nat.le_refl _)) _
  · have hne : (p.e == 0) = false := beq_eq_false_iff_ne.2 he
    have HTK : Aside0 (p.fits kind texts = false) := ⟨by unfold PS.fits; rw [hne]; simp⟩
    go_wp2_with fail
    rw [← HWB.out]
    refine (fail_ask HXB.out HL.out).mono ?_
    rintro e wF ⟨rfl, hX, hk⟩
    have HXF := Aside0.mk hX
    have HKF : Aside0 (Kept W wF (fun k => k = g)) := ⟨⟨Nat.le_trans HBB.out.size hk.1, fun i hi hn => (hk.2 i (Nat.lt_of_lt_of_le hi HBB.out.size) hn).trans ((Kept.of_below HBB.out (fun k => k = g)).2 i hi hn)⟩⟩
    have HRF := Aside0.mk (blk_kept HRB.out hk (by have := HGL.out; omega))
    have r0 : wF.cell? ⟨W.heap.size, 0, none⟩ = some (.int .i64 0) := blk_cell HRF.out 0
    have r1 : wF.cell? ⟨W.heap.size, 1, none⟩ = some (.string ⟨#[]⟩) := blk_cell HRF.out 1
    have r2 : wF.cell? ⟨W.heap.size, 2, none⟩ = some (.int .i64 0) := blk_cell HRF.out 2
    have r3 : wF.cell? ⟨W.heap.size, 3, none⟩ = some (.int .i64 0) := blk_cell HRF.out 3
    have r4 : wF.cell? ⟨W.heap.size, 4, none⟩ = some (.int .i64 0) := blk_cell HRF.out 4
    have f0 := blk_frozen HRF.out 0
    have f1 := blk_frozen HRF.out 1
    have f2 := blk_frozen HRF.out 2
    have f3 := blk_frozen HRF.out 3
    have f4 := blk_frozen HRF.out 4
    clear hX hk
    go_wp2_with fail
    refine bodyPost_ret (results_cell_row rfl _ _ W.heap.size 46 (tokC z46) (0, 0) _ rfl (blk_put (blk_put (blk_put (blk_put (blk_put HRF.out 0 _ rfl) 1 _ rfl) 2 _ rfl) 3 _ rfl) 4 _ rfl) Tryd.underlying46 rfl (by kernel_rfl)) rfl ?_
    have hqg : W.heap.size ≠ g := by have := HGL.out; omega
    have hok : ∀ k, (ok k ∧ k < W.heap.size) → k ≠ W.heap.size := fun k hk => by have := hk.2; omega
    refine ⟨by unfold PS.take; rw [if_neg (by rw [HTK.out]; decide)], ⟨A, c, ?_⟩, ?_⟩
    · unfold PS.take; rw [if_neg (by rw [HTK.out]; decide)]
      exact (((((HXF.out.far hqg hok HWS.out 0 _).far hqg hok HWS.out 1 _).far hqg hok HWS.out 2 _).far hqg hok HWS.out 3 _).far hqg hok HWS.out 4 _).mono (fun k hk => hk.1)
    · exact ((((HKF.out.setCell (p := ⟨W.heap.size, 0, none⟩) (.inr (Nat.le_refl _)) _).setCell (p := ⟨W.heap.size, 1, none⟩) (.inr (Nat.le_refl _)) _).setCell (p := ⟨W.heap.size, 2, none⟩) (.inr (Nat.le_refl _)) _).setCell (p := ⟨W.heap.size, 3, none⟩) (.inr (Nat.le_refl _)) _).setCell (p := ⟨W.heap.size, 4, none⟩) (.inr (Nat.le_refl _)) _
end
end Go.Proofs.YtddbkcfdfgehkaaDoor.Q
