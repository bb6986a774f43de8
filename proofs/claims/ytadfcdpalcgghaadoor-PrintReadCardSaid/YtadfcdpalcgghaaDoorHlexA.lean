-- The reader of lex in memory; take and add, walked by hand.
-- NEEDS pendulum/lex.small pendulum/lex.digit pendulum/lex.inWord pendulum/lex.inRemark
import Derived.Test.YtadfcdpalcgghaaDoorM0
import Derived.Deep.RegionLaw
namespace Go.Proofs.YtadfcdpalcgghaaDoor.Q
open Go.RowKit Go.Proofs.YtadfcdpalcgghaaDoorW.PrintWords Go.Proofs.YtadfcdpalcgghaaDoorW.PrintLast Go.Proofs.YtadfcdpalcgghaaDoorW.PrintMore
attribute [local go_sem] max2_int min2_int max_two min_two max_three min_three max_four min_four   -- for this text's walks alone
set_option linter.unusedVariables false
set_option linter.unusedSimpArgs false

def Rdr (w0 W : World) (g : Nat) (A : Option Addr) (n c : Nat) (p line col : Int) (v : Value) (xs : List S61) : Prop :=
 W.heap[g]? = some (.cells #[.slice A n c, .int .i64 p, .int .i64 line, .int .i64 col, v] 73 (0, 0)) ∧ Kd.R k61 61 W w0.heap.size (fun k => k ≠ g) v xs ∧ Below w0.heap.size w0 W ∧ w0.heap.size ≤ g
section
variable {w0 W : World} {g : Nat} {A : Option Addr} {n c : Nat} {p line col : Int} {v : Value} {xs : List S61}
theorem Rdr.cells (h : Rdr w0 W g A n c p line col v xs) :
  W.cell? ⟨g, 0, none⟩ = some (.slice A n c) ∧ W.cell? ⟨g, 1, none⟩ = some (.int .i64 p) ∧ W.cell? ⟨g, 2, none⟩ = some (.int .i64 line) ∧ W.cell? ⟨g, 3, none⟩ = some (.int .i64 col) ∧ W.cell? ⟨g, 4, none⟩ = some v ∧ W.frozen? ⟨g, 1, none⟩ = false ∧ W.frozen? ⟨g, 2, none⟩ = false ∧ W.frozen? ⟨g, 3, none⟩ = false ∧ W.frozen? ⟨g, 4, none⟩ = false :=
 ⟨blk_cell h.1 0, blk_cell h.1 1, blk_cell h.1 2, blk_cell h.1 3, blk_cell h.1 4, blk_frozen h.1 1, blk_frozen h.1 2, blk_frozen h.1 3, blk_frozen h.1 4⟩
theorem Rdr.set1 (h : Rdr w0 W g A n c p line col v xs) (q : Int) : Rdr w0 (W.setCell ⟨g, 1, none⟩ (.int .i64 q)) g A n c q line col v xs :=
 ⟨blk_put h.1 1 _ rfl, Kd.R_far h.2.1 (fun _ hk => hk) _, h.2.2.1.setCell h.2.2.2 _, h.2.2.2⟩
theorem Rdr.set2 (h : Rdr w0 W g A n c p line col v xs) (q : Int) : Rdr w0 (W.setCell ⟨g, 2, none⟩ (.int .i64 q)) g A n c p q col v xs :=
 ⟨blk_put h.1 2 _ rfl, Kd.R_far h.2.1 (fun _ hk => hk) _, h.2.2.1.setCell h.2.2.2 _, h.2.2.2⟩
theorem Rdr.set3 (h : Rdr w0 W g A n c p line col v xs) (q : Int) : Rdr w0 (W.setCell ⟨g, 3, none⟩ (.int .i64 q)) g A n c p line q v xs :=
 ⟨blk_put h.1 3 _ rfl, Kd.R_far h.2.1 (fun _ hk => hk) _, h.2.2.1.setCell h.2.2.2 _, h.2.2.2⟩
theorem Rdr.drewN (h : Rdr w0 W g A n c p line col v xs) (m : Nat) : Rdr w0 (W.drewN m) g A n c p line col v xs :=
 ⟨h.1, Kd.R_drewN h.2.1 m, pw_below_drewN h.2.2.1 m, h.2.2.2⟩
theorem Rdr.drew (h : Rdr w0 W g A n c p line col v xs) : Rdr w0 W.drew g A n c p line col v xs := h.drewN 1
theorem Rdr.app {w1 : World} {v1 : Value} {ys : List S61} (h : Rdr w0 W g A n c p line col v xs) (hO : Kd.R k61 61 w1 w0.heap.size (fun k => k ≠ g) v1 ys) (hB : Below w0.heap.size w0 w1) (hg : W.grownBy w1 v.ownBlock) :
  w1.cell? ⟨g, 4, none⟩ = some v ∧ w1.frozen? ⟨g, 4, none⟩ = false ∧ Rdr w0 (w1.setCell ⟨g, 4, none⟩ v1) g A n c p line col v1 ys := by
 have hb := blk_grown h.1 hg (fun e => h.2.1.1 g e.symm rfl)
 exact ⟨blk_cell hb 4, blk_frozen hb 4, blk_put hb 4 _ rfl, Kd.R_far hO (fun _ hk => hk) _, hB.setCell h.2.2.2 _, h.2.2.2⟩
end
theorem lex_info5 : (Tryd.prog.info? 5).map (fun i => (i.zero, i.size, i.bytes)) = some (some (.int .u8 0), 1, 1) := by kernel_rfl
theorem lex_infoT : (Tryd.prog.info? 61).map (fun i => (i.zero, i.size, i.bytes)) = some (some (.agg #[(.int .i64 0), (.string ⟨#[]⟩), (.int .i64 0), (.int .i64 0), (.int .i64 0)]), 5, 48) := by kernel_rfl
theorem take_span (P : Int → Bool) (l : List Int) (p : Nat) : (l.take (p + ((l.drop p).takeWhile P).length)).drop p = (l.drop p).takeWhile P := by
 rw [List.drop_take, Nat.add_sub_cancel_left]
 have : ∀ s : List Int, s.take (s.takeWhile P).length = s.takeWhile P := by
  intro s
  induction s with
  | nil => rfl
  | cons c s ih =>
   rw [List.takeWhile_cons]
   split
   ·simp only [List.length_cons, List.take_succ_cons, ih]
   ·rfl
 exact this _
theorem drop_rd (l : List Int) (q : Nat) (h : q < l.length) : l.drop q = rd l q :: l.drop (q + 1) := by
 rw [List.drop_eq_getElem_cons h]
 congr 1
 unfold rd
 simp [List.getD_eq_getElem?_getD, List.getElem?_eq_getElem h]
theorem span_step (P : Int → Bool) (l : List Int) (q e : Nat) (h : q < l.length) (hy : P (rd l q) = true) (he : q + ((l.drop q).takeWhile P).length = e) : q + 1 + ((l.drop (q + 1)).takeWhile P).length = e := by
 rw [drop_rd l q h, List.takeWhile_cons, if_pos hy] at he
 simp only [List.length_cons] at he
 omega
theorem span_stop (P : Int → Bool) (l : List Int) (q e : Nat) (h : q < l.length) (hy : P (rd l q) = false) (he : q + ((l.drop q).takeWhile P).length = e) : q = e := by
 rw [drop_rd l q h, List.takeWhile_cons, if_neg (by rw [hy]; decide)] at he
 simpa using he
theorem span_end (P : Int → Bool) (l : List Int) (q e : Nat) (h : ¬ q < l.length) (he : q + ((l.drop q).takeWhile P).length = e) : q = e := by
 rw [List.drop_eq_nil_of_le (by omega)] at he
 simpa using he
theorem rd_ok {l : List Int} (hb : okBytes l = true) (q : Nat) (h : q < l.length) : 0 ≤ rd l q ∧ rd l q ≤ 255 := by
 have h1 : rd l q ∈ l := by
  unfold rd
  simp [List.getD_eq_getElem?_getD, List.getElem?_eq_getElem h]
 have := List.all_eq_true.1 hb _ h1
 simpa using this
theorem lex_small_eq (c : Int) : lex_small.f c = some (smB c) := by
 unfold lex_small.f smB
 split
 ·rename_i h; simp; omega
 ·rename_i h; simp; omega
theorem lex_digit_eq (c : Int) : lex_digit.f c = some (dgB c) := by
 unfold lex_digit.f dgB
 split
 ·rename_i h; simp; omega
 ·rename_i h; simp; omega
theorem lex_inWord_eq (c : Int) : lex_inWord.f c = some (wdB c) := by
 unfold lex_inWord.f wdB
 rw [lex_small_eq, lex_digit_eq]
 simp only [Option.bind_some]
 cases smB c <;> cases dgB c <;> rfl
theorem lex_inRemark_eq (c : Int) : lex_inRemark.f c = some (rkB c) := rfl
theorem cut_str (w0 : World) {A : Option Addr} {c : Nat} {l : List Int} (p q : Nat) (hpq : p ≤ q) (hql : q ≤ l.length) (hr0 : Kd.C (Kd.int .u8) w0 A l.length l) (hc0 : l.length ≤ c) :
  ∃ A' n' c', (∀ W : World, (Instr.slice 41 (.slice A l.length c) (some (.int .i64 (p : Int))) (some (.int .i64 (q : Int))) none).run Tryd.prog W = .ok (.slice A' n' c') W) ∧
   ∀ W : World, Below w0.heap.size w0 W → (convert 41 9 (.slice A' n' c')).run Tryd.prog W = .ok (.string (strOfNums ((l.take q).drop p))) W := by
 obtain ⟨i0, hi0, _, hsz, _⟩ := info_parts lex_info5
 obtain ⟨A', hcut, hA, hC⟩ := print_mid_of (P := Tryd.prog) (Value.int .u8) 0 41 5 .i64 .i64 Tryd.underlying41 hi0 hsz A c l p q (by omega) (by omega) (by omega) hc0
 refine ⟨A', _, _, hcut, fun W hW => ?_⟩
 have HR := Kd.C_of_reads (h1 := fun _ => rfl) (hA _ (Kd.reads_of_C hr0))
 exact Kd.C_string (P := Tryd.prog) Tryd.underlying41 Tryd.underlying5 Tryd.underlying9 (Kd.C_below HR hW)
set_option maxHeartbeats 1000000 in
set_option maxRecDepth 100000 in
theorem take_inWord (w0 w : World) (g : Nat) (A : Option Addr) (c : Nat) (l : List Int) (p : Nat) (line : Int) (col : Int) (v : Value) (xs : List S61)
  (hl : l.length ≤ 5000000) (hp : p ≤ l.length) (hcol0 : 0 ≤ col) (hcol1 : col ≤ 10000000) (hr0 : Kd.C (Kd.int .u8) w0 A l.length l) (hc0 : l.length ≤ c) (hR : Rdr w0 w g A l.length c p line col v xs) :
  Calls Tryd.prog 47 #[.pointer (some ⟨g, 0, none⟩), .func (.func 48) #[] #[]] w fun e w' => ∃ (q : Nat) (S : ByteArray), p + ((l.drop p).takeWhile wdB).length = q ∧ S = strOfNums ((l.drop p).takeWhile wdB) ∧ q ≤ l.length ∧ e = .returned (.string S) ∧ Rdr w0 w' g A l.length c q line (col + (q - p)) v xs := by
 obtain ⟨h0, h1, h2, h3, h4, f1, f2, f3, f4⟩ := hR.cells
 have HR := Aside0.mk hR
 have HR0 := Aside0.mk hr0
 clear hR hr0
 go_enter Tryd.func47, Tryd.ntmps47
 go_wp2
 clear h0 h1 h2 h3 h4 f1 f2 f3 f4
 go_loopg [] (l.length - p) (fun kq w' => ∃ q : Nat, p ≤ q ∧ q ≤ l.length ∧ Aside0 (kq = l.length - q) ∧ Aside0 (q + ((l.drop q).takeWhile wdB).length = p + ((l.drop p).takeWhile wdB).length) ∧ Aside0 (Rdr w0 w' g A l.length c q line col v xs))
 case atStart => exact ⟨p, Nat.le_refl _, hp, ⟨rfl⟩, ⟨rfl⟩, HR⟩
 case round =>
  clear HR
  obtain ⟨q, hpq, hql, HK, HE, HR⟩ := hrel
  obtain ⟨h0, h1, h2, h3, h4, f1, f2, f3, f4⟩ := HR.out.cells
  by_cases hlt : q < l.length
  ·obtain ⟨ad, e, hc⟩ := Kd.at_int HR0.out (q : Int) (by omega) (by omega)
   cases e
   replace hc := (HR.out.2.2.1.cell (World.block_lt_of_cell? w0 _ hc)).trans hc
   simp only [Int.toNat_natCast] at hc
   have hd0 : decide ((q : Int) < (l.length : Int)) = true := by simp; omega
   have q0 : (0 : Int) ≤ q := by omega
   have q1 : (q : Int) < (l.length : Int) := by omega
   have HY := Aside0.mk (lex_inWord_eq (rd l q))
   obtain ⟨y, hy⟩ : ∃ y, wdB (rd l q) = y := ⟨_, rfl⟩
   rw [hy] at HY
   have HYY := Aside0.mk hy
   clear hy
   cases y with
   | true =>
    go_wp2_with fail
    go_quiet ((go_at_call 48; exact Calls.quiet_of ((lex_inWord.calls _ _ _ HY.out).mono fun e w' ⟨he, hd⟩ => ⟨he, hd.out⟩)))
    go_wp2
    go_roundg (l.length - (q + 1))
    case measure => have := HK.out; omega
    case rel => exact ⟨q + 1, by omega, by omega, ⟨rfl⟩, ⟨span_step wdB l q _ hlt HYY.out HE.out⟩, ⟨by have := (HR.out.drewN nq).set1 ((q : Int) + 1); simpa using this⟩⟩
   | false =>
    have HQ := Aside0.mk (span_stop wdB l q _ hlt HYY.out HE.out)
    go_wp2_with fail
    go_quiet ((go_at_call 48; exact Calls.quiet_of ((lex_inWord.calls _ _ _ HY.out).mono fun e w' ⟨he, hd⟩ => ⟨he, hd.out⟩)))
    go_wp2
    go_region
    go_wp2
    obtain ⟨A', n', c', hcut, hcv0⟩ := cut_str w0 p q hpq hql HR0.out hc0
    have hR3 := Aside0.mk ((HR.out.drewN (nq + 1)).set3 (col + ((q : Int) - p)))
    have hcv := fun m => hcv0 (((wr.drewN (nq + 1)).setCell { block := g, off := 3 } (Value.int IntKind.i64 (col + ((q : Int) - p)))).drewN m) (pw_below_drewN hR3.out.2.2.1 m)
    clear hcv0
    go_quiet (fail)
    go_wp2
    go_ret
    exact ⟨q, _, HQ.out.symm, by rw [HQ.out, take_span], hql, rfl, hR3.out.drewN _⟩
  ·have hd0 : decide ((q : Int) < (l.length : Int)) = false := by simp; omega
   have HQ := Aside0.mk (span_end wdB l q _ hlt HE.out)
   go_wp2_with fail
   go_quiet (fail)
   go_wp2
   go_region
   go_wp2
   obtain ⟨A', n', c', hcut, hcv0⟩ := cut_str w0 p q hpq hql HR0.out hc0
   have hR3 := Aside0.mk ((HR.out.drewN (nq + 1)).set3 (col + ((q : Int) - p)))
   have hcv := fun m => hcv0 (((wr.drewN (nq + 1)).setCell { block := g, off := 3 } (Value.int IntKind.i64 (col + ((q : Int) - p)))).drewN m) (pw_below_drewN hR3.out.2.2.1 m)
   clear hcv0
   go_quiet (fail)
   go_wp2
   go_ret
   exact ⟨q, _, HQ.out.symm, by rw [HQ.out, take_span], hql, rfl, hR3.out.drewN _⟩
set_option maxHeartbeats 1000000 in
set_option maxRecDepth 100000 in
theorem take_digit (w0 w : World) (g : Nat) (A : Option Addr) (c : Nat) (l : List Int) (p : Nat) (line : Int) (col : Int) (v : Value) (xs : List S61)
  (hl : l.length ≤ 5000000) (hp : p ≤ l.length) (hcol0 : 0 ≤ col) (hcol1 : col ≤ 10000000) (hr0 : Kd.C (Kd.int .u8) w0 A l.length l) (hc0 : l.length ≤ c) (hR : Rdr w0 w g A l.length c p line col v xs) :
  Calls Tryd.prog 47 #[.pointer (some ⟨g, 0, none⟩), .func (.func 49) #[] #[]] w fun e w' => ∃ (q : Nat) (S : ByteArray), p + ((l.drop p).takeWhile dgB).length = q ∧ S = strOfNums ((l.drop p).takeWhile dgB) ∧ q ≤ l.length ∧ e = .returned (.string S) ∧ Rdr w0 w' g A l.length c q line (col + (q - p)) v xs := by
 obtain ⟨h0, h1, h2, h3, h4, f1, f2, f3, f4⟩ := hR.cells
 have HR := Aside0.mk hR
 have HR0 := Aside0.mk hr0
 clear hR hr0
 go_enter Tryd.func47, Tryd.ntmps47
 go_wp2
 clear h0 h1 h2 h3 h4 f1 f2 f3 f4
 go_loopg [] (l.length - p) (fun kq w' => ∃ q : Nat, p ≤ q ∧ q ≤ l.length ∧ Aside0 (kq = l.length - q) ∧ Aside0 (q + ((l.drop q).takeWhile dgB).length = p + ((l.drop p).takeWhile dgB).length) ∧ Aside0 (Rdr w0 w' g A l.length c q line col v xs))
 case atStart => exact ⟨p, Nat.le_refl _, hp, ⟨rfl⟩, ⟨rfl⟩, HR⟩
 case round =>
  clear HR
  obtain ⟨q, hpq, hql, HK, HE, HR⟩ := hrel
  obtain ⟨h0, h1, h2, h3, h4, f1, f2, f3, f4⟩ := HR.out.cells
  by_cases hlt : q < l.length
  ·obtain ⟨ad, e, hc⟩ := Kd.at_int HR0.out (q : Int) (by omega) (by omega)
   cases e
   replace hc := (HR.out.2.2.1.cell (World.block_lt_of_cell? w0 _ hc)).trans hc
   simp only [Int.toNat_natCast] at hc
   have hd0 : decide ((q : Int) < (l.length : Int)) = true := by simp; omega
   have q0 : (0 : Int) ≤ q := by omega
   have q1 : (q : Int) < (l.length : Int) := by omega
   have HY := Aside0.mk (lex_digit_eq (rd l q))
   obtain ⟨y, hy⟩ : ∃ y, dgB (rd l q) = y := ⟨_, rfl⟩
   rw [hy] at HY
   have HYY := Aside0.mk hy
   clear hy
   cases y with
   | true =>
    go_wp2_with fail
    go_quiet ((go_at_call 49; exact Calls.quiet_of ((lex_digit.calls _ _ _ HY.out).mono fun e w' ⟨he, hd⟩ => ⟨he, hd.out⟩)))
    go_wp2
    go_roundg (l.length - (q + 1))
    case measure => have := HK.out; omega
    case rel => exact ⟨q + 1, by omega, by omega, ⟨rfl⟩, ⟨span_step dgB l q _ hlt HYY.out HE.out⟩, ⟨by have := (HR.out.drewN nq).set1 ((q : Int) + 1); simpa using this⟩⟩
   | false =>
    have HQ := Aside0.mk (span_stop dgB l q _ hlt HYY.out HE.out)
    go_wp2_with fail
    go_quiet ((go_at_call 49; exact Calls.quiet_of ((lex_digit.calls _ _ _ HY.out).mono fun e w' ⟨he, hd⟩ => ⟨he, hd.out⟩)))
    go_wp2
    go_region
    go_wp2
    obtain ⟨A', n', c', hcut, hcv0⟩ := cut_str w0 p q hpq hql HR0.out hc0
    have hR3 := Aside0.mk ((HR.out.drewN (nq + 1)).set3 (col + ((q : Int) - p)))
    have hcv := fun m => hcv0 (((wr.drewN (nq + 1)).setCell { block := g, off := 3 } (Value.int IntKind.i64 (col + ((q : Int) - p)))).drewN m) (pw_below_drewN hR3.out.2.2.1 m)
    clear hcv0
    go_quiet (fail)
    go_wp2
    go_ret
    exact ⟨q, _, HQ.out.symm, by rw [HQ.out, take_span], hql, rfl, hR3.out.drewN _⟩
  ·have hd0 : decide ((q : Int) < (l.length : Int)) = false := by simp; omega
   have HQ := Aside0.mk (span_end dgB l q _ hlt HE.out)
   go_wp2_with fail
   go_quiet (fail)
   go_wp2
   go_region
   go_wp2
   obtain ⟨A', n', c', hcut, hcv0⟩ := cut_str w0 p q hpq hql HR0.out hc0
   have hR3 := Aside0.mk ((HR.out.drewN (nq + 1)).set3 (col + ((q : Int) - p)))
   have hcv := fun m => hcv0 (((wr.drewN (nq + 1)).setCell { block := g, off := 3 } (Value.int IntKind.i64 (col + ((q : Int) - p)))).drewN m) (pw_below_drewN hR3.out.2.2.1 m)
   clear hcv0
   go_quiet (fail)
   go_wp2
   go_ret
   exact ⟨q, _, HQ.out.symm, by rw [HQ.out, take_span], hql, rfl, hR3.out.drewN _⟩
set_option maxHeartbeats 1000000 in
set_option maxRecDepth 100000 in
theorem take_inRemark (w0 w : World) (g : Nat) (A : Option Addr) (c : Nat) (l : List Int) (p : Nat) (line : Int) (col : Int) (v : Value) (xs : List S61)
  (hl : l.length ≤ 5000000) (hp : p ≤ l.length) (hcol0 : 0 ≤ col) (hcol1 : col ≤ 10000000) (hr0 : Kd.C (Kd.int .u8) w0 A l.length l) (hc0 : l.length ≤ c) (hR : Rdr w0 w g A l.length c p line col v xs) :
  Calls Tryd.prog 47 #[.pointer (some ⟨g, 0, none⟩), .func (.func 51) #[] #[]] w fun e w' => ∃ (q : Nat) (S : ByteArray), p + ((l.drop p).takeWhile rkB).length = q ∧ S = strOfNums ((l.drop p).takeWhile rkB) ∧ q ≤ l.length ∧ e = .returned (.string S) ∧ Rdr w0 w' g A l.length c q line (col + (q - p)) v xs := by
 obtain ⟨h0, h1, h2, h3, h4, f1, f2, f3, f4⟩ := hR.cells
 have HR := Aside0.mk hR
 have HR0 := Aside0.mk hr0
 clear hR hr0
 go_enter Tryd.func47, Tryd.ntmps47
 go_wp2
 clear h0 h1 h2 h3 h4 f1 f2 f3 f4
 go_loopg [] (l.length - p) (fun kq w' => ∃ q : Nat, p ≤ q ∧ q ≤ l.length ∧ Aside0 (kq = l.length - q) ∧ Aside0 (q + ((l.drop q).takeWhile rkB).length = p + ((l.drop p).takeWhile rkB).length) ∧ Aside0 (Rdr w0 w' g A l.length c q line col v xs))
 case atStart => exact ⟨p, Nat.le_refl _, hp, ⟨rfl⟩, ⟨rfl⟩, HR⟩
 case round =>
  clear HR
  obtain ⟨q, hpq, hql, HK, HE, HR⟩ := hrel
  obtain ⟨h0, h1, h2, h3, h4, f1, f2, f3, f4⟩ := HR.out.cells
  by_cases hlt : q < l.length
  ·obtain ⟨ad, e, hc⟩ := Kd.at_int HR0.out (q : Int) (by omega) (by omega)
   cases e
   replace hc := (HR.out.2.2.1.cell (World.block_lt_of_cell? w0 _ hc)).trans hc
   simp only [Int.toNat_natCast] at hc
   have hd0 : decide ((q : Int) < (l.length : Int)) = true := by simp; omega
   have q0 : (0 : Int) ≤ q := by omega
   have q1 : (q : Int) < (l.length : Int) := by omega
   have HY := Aside0.mk (lex_inRemark_eq (rd l q))
   obtain ⟨y, hy⟩ : ∃ y, rkB (rd l q) = y := ⟨_, rfl⟩
   rw [hy] at HY
   have HYY := Aside0.mk hy
   clear hy
   cases y with
   | true =>
    go_wp2_with fail
    go_quiet ((go_at_call 51; exact Calls.quiet_of ((lex_inRemark.calls _ _ _ HY.out).mono fun e w' ⟨he, hd⟩ => ⟨he, hd.out⟩)))
    go_wp2
    go_roundg (l.length - (q + 1))
    case measure => have := HK.out; omega
    case rel => exact ⟨q + 1, by omega, by omega, ⟨rfl⟩, ⟨span_step rkB l q _ hlt HYY.out HE.out⟩, ⟨by have := (HR.out.drewN nq).set1 ((q : Int) + 1); simpa using this⟩⟩
   | false =>
    have HQ := Aside0.mk (span_stop rkB l q _ hlt HYY.out HE.out)
    go_wp2_with fail
    go_quiet ((go_at_call 51; exact Calls.quiet_of ((lex_inRemark.calls _ _ _ HY.out).mono fun e w' ⟨he, hd⟩ => ⟨he, hd.out⟩)))
    go_wp2
    go_region
    go_wp2
    obtain ⟨A', n', c', hcut, hcv0⟩ := cut_str w0 p q hpq hql HR0.out hc0
    have hR3 := Aside0.mk ((HR.out.drewN (nq + 1)).set3 (col + ((q : Int) - p)))
    have hcv := fun m => hcv0 (((wr.drewN (nq + 1)).setCell { block := g, off := 3 } (Value.int IntKind.i64 (col + ((q : Int) - p)))).drewN m) (pw_below_drewN hR3.out.2.2.1 m)
    clear hcv0
    go_quiet (fail)
    go_wp2
    go_ret
    exact ⟨q, _, HQ.out.symm, by rw [HQ.out, take_span], hql, rfl, hR3.out.drewN _⟩
  ·have hd0 : decide ((q : Int) < (l.length : Int)) = false := by simp; omega
   have HQ := Aside0.mk (span_end rkB l q _ hlt HE.out)
   go_wp2_with fail
   go_quiet (fail)
   go_wp2
   go_region
   go_wp2
   obtain ⟨A', n', c', hcut, hcv0⟩ := cut_str w0 p q hpq hql HR0.out hc0
   have hR3 := Aside0.mk ((HR.out.drewN (nq + 1)).set3 (col + ((q : Int) - p)))
   have hcv := fun m => hcv0 (((wr.drewN (nq + 1)).setCell { block := g, off := 3 } (Value.int IntKind.i64 (col + ((q : Int) - p)))).drewN m) (pw_below_drewN hR3.out.2.2.1 m)
   clear hcv0
   go_quiet (fail)
   go_wp2
   go_ret
   exact ⟨q, _, HQ.out.symm, by rw [HQ.out, take_span], hql, rfl, hR3.out.drewN _⟩
set_option maxHeartbeats 1000000 in
set_option maxRecDepth 100000 in
theorem add_any (w0 w : World) (g : Nat) (A : Option Addr) (n c : Nat) (p line col0 : Int) (v : Value) (xs : List S61) (kind value col : Int) (s : ByteArray)
  (hl : xs.length ≤ 10000000) (hR : Rdr w0 w g A n c p line col0 v xs) :
  Calls Tryd.prog 37 #[.pointer (some ⟨g, 0, none⟩), .int .i64 kind, .string s, .int .i64 value, .int .i64 col] w fun e w' => e = .returned (.tuple #[]) ∧ ∃ v', Rdr w0 w' g A n c p line col0 v' (xs ++ [⟨kind, s, value, line, col⟩]) := by
 obtain ⟨h0, h1, h2, h3, h4, f1, f2, f3, f4⟩ := hR.cells
 have HR := Aside0.mk hR
 have HF : Aside0 (∀ k, w.heap.size ≤ k → k ≠ g) := ⟨fun k hk e => by have := blk_lt hR.1; omega⟩
 have HL : Aside0 ((xs.length + 1) * 48 ≤ 140737488355328) := ⟨by omega⟩
 have h4a : ∀ o, (w.alloc o).cell? ⟨g, 4, none⟩ = some v := fun o => blk_cell (blk_alloc hR.1 o) 4
 clear hR
 go_enter Tryd.func37, Tryd.ntmps37
 go_wp2
 go_region_law (refine Kd.R_append_step k61 (w0 := w0) (W := w.drew) w0.heap.size ?hw (.tmp 14) (.tmp 24) 56 61 (.agg #[(.int .i64 0), (.string ⟨#[]⟩), (.int .i64 0), (.int .i64 0), (.int .i64 0)]) 48 ?ho Tryd.underlying56 lex_infoT rfl (by decide) (by omega) v xs (⟨kind, s, value, line, col⟩ : S61) [.int .i64 kind, .string s, .int .i64 value, .int .i64 line, .int .i64 col] (fun k => k ≠ g) (fun _ => False) ?hs ?hx (k61_mkM _ _ _ _) (fun _ hk => hk.elim) HF.out HR.out.drew.2.1 HR.out.drew.2.2.1 HR.out.2.2.1.size HL.out ?_; (case hw => rfl); (case ho => rfl); (case hs => first | rfl | simp [Act.eval, Act.put]); (case hx => first | rfl | simp [Act.eval, Act.put]); intro v1 w1 hO hB hg _; obtain ⟨A1, n1, c1, rfl⟩ : ∃ A1 n1 c1, v1 = Value.slice A1 n1 c1 := (by obtain ⟨A1, c1, h⟩ := Kd.R_slice hO; exact ⟨_, _, _, h⟩); obtain ⟨hc4, hf4, hA⟩ := HR.out.drew.app hO hB hg; have HA := Aside0.mk hA; clear hA hO hB hg)
 all_goals (go_end0; exact ⟨rfl, _, HA.out⟩)
end Go.Proofs.YtadfcdpalcgghaaDoor.Q
