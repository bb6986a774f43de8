-- Texts of this claim, put together: Hlex, LlexP.
import Derived.Test.YtadfcdpalcgghaaDoorM0
import Derived.Test.YtadfcdpalcgghaaDoorHlexA
import Derived.Test.YtadfcdpalcgghaaDoorHlexC
import Derived.OpenShut
-- The tokens of a text, as lex.Tokens tells them: proved by hand, in the printer's form.
namespace Go.Proofs.YtadfcdpalcgghaaDoor.Q
open Go.RowKit Go.Proofs.YtadfcdpalcgghaaDoorW.PrintWords Go.Proofs.YtadfcdpalcgghaaDoorW.PrintLast Go.Proofs.YtadfcdpalcgghaaDoorW.PrintMore
attribute [local go_sem] max2_int min2_int max_two min_two max_three min_three max_four min_four   -- for this text's walks alone
set_option linter.unusedVariables false
set_option linter.unusedSimpArgs false

def lex_Tokens.f (l0 : List Int) : Option ((List (S61)) × Int × Int × Int) := if okBytes l0 = true ∧ l0.length ≤ 1000000 then some (lexToks l0) else none
theorem lex_ends {w w0 w' : World} {v : Value} {ok : Nat → Prop} {xs : List S61} (hsz : w0.heap.size = w.heap.size + 1) (hbe : Below w.heap.size w w0) (hb : Below w0.heap.size w0 w') (hR : Kd.R k61 61 w' w0.heap.size ok v xs) (x y z : Value) :
  Kd.R k61 61 (((w'.setCell ⟨w.heap.size, 0, none⟩ x).setCell ⟨w.heap.size, 1, none⟩ y).setCell ⟨w.heap.size, 2, none⟩ z) w.heap.size (fun _ => True) v xs ∧ Below w.heap.size w (((w'.setCell ⟨w.heap.size, 0, none⟩ x).setCell ⟨w.heap.size, 1, none⟩ y).setCell ⟨w.heap.size, 2, none⟩ z) := by
 have hn : ∀ k : Nat, (ok k ∧ w0.heap.size ≤ k ∧ k < w'.heap.size ∧ ∃ q, q ∈ 61 :: k61.E ∧ ∃ cells, w'.heap[k]? = some (.cells cells q (0, 0))) → k ≠ w.heap.size := fun k hk => by omega
 refine ⟨Kd.R_lower (Kd.R_mono (Kd.R_far (Kd.R_far (Kd.R_far (Kd.R_bound hR) hn x) hn y) hn z) (fun _ _ => trivial)) (by omega), ?_⟩
 exact (((hbe.trans (hb.mono (by omega))).setCell (Nat.le_refl _) x).setCell (Nat.le_refl _) y).setCell (Nat.le_refl _) z
theorem lex_spot {b : Nat} {W : World} {t : TypeId} {x0 y0 z0 : Value} (h : W.heap[b]? = some (.cells #[x0, y0, z0] t (0, 0))) (x y z : Value) : (((W.setCell ⟨b, 0, none⟩ x).setCell ⟨b, 1, none⟩ y).setCell ⟨b, 2, none⟩ z).heap[b]? = some (.cells #[x, y, z] t (0, 0)) :=
 blk_put (blk_put (blk_put h 0 x rfl) 1 y rfl) 2 z rfl
set_option maxHeartbeats 1000000 in
set_option maxRecDepth 100000 in
theorem lex_Tokens.calls (A0 : Option Addr) (c0 : Nat) (l0 : List Int) (r1 : List (S61)) (r2 : Int) (r3 : Int) (r4 : Int) (w : World) (hr0 : Kd.C (Kd.int .u8) w A0 l0.length l0) (hc0 : l0.length ≤ c0) (h : lex_Tokens.f l0 = some (r1, r2, r3, r4)) :
  Calls Tryd.prog 25 #[.slice A0 l0.length c0] w fun e w' => ∃ v0_ : Value, e = .returned (.tuple #[v0_, .agg #[.int .i64 r2, .int .i64 r3, .int .i64 r4]]) ∧ Kd.R k61 61 w' w.heap.size (fun _ => True) v0_ r1 ∧ Below w.heap.size w w' := by
 unfold lex_Tokens.f at h
 split at h
 case isFalse => exact absurd h (by simp)
 case isTrue hcond =>
 obtain ⟨hok, hlen⟩ := hcond
 have H := Aside0.mk (Option.some.inj h)
 have HOK := Aside0.mk hok
 have HR0 := Aside0.mk hr0
 clear h hok hr0
 go_enter Tryd.func25, Tryd.ntmps25
 go_wp2
 obtain ⟨w0, hw0⟩ : ∃ w0, w0 = w.alloc (.cells #[.int .i64 0, .int .i64 0, .int .i64 0] 38) := ⟨_, rfl⟩
 have hsz : w0.heap.size = w.heap.size + 1 := by rw [hw0]; simp
 have hbl : w0.heap[w.heap.size]? = some (.cells #[.int .i64 0, .int .i64 0, .int .i64 0] 38 (0, 0)) := by rw [hw0]; exact blk_new _ _
 have hbe : Below w.heap.size w w0 := by rw [hw0]; exact below_alloc (Below.refl _ _) _
 have HI : Aside0 (Rdr w0 (w0.alloc (.cells #[.slice A0 l0.length c0, .int .i64 0, .int .i64 1, .int .i64 1, .slice none 0 0] 73)) (w.heap.size + 1) A0 l0.length c0 0 1 1 (.slice none 0 0) []) := ⟨⟨by rw [← hsz]; exact blk_new _ _, Kd.R_nil _ _ _ _ _, below_alloc (Below.refl _ _) _, by omega⟩⟩
 rw [← hw0]
 have HR1 := Aside0.mk (Kd.C_below HR0.out hbe)
 have HBE := Aside0.mk hbe
 have HBL := Aside0.mk hbl
 have HSZ := Aside0.mk hsz
 clear hw0 HR0 hbl hbe hsz
 go_loopg [] (l0.length + 1) (fun kq wr => ∃ (p : Nat) (line col : Int) (v : Value) (xs : List S61), p ≤ l0.length ∧ 0 ≤ line ∧ line ≤ p + 1 ∧ 0 ≤ col ∧ col ≤ p + 1 ∧ xs.length ≤ p ∧ Aside0 (toks kq (l0.drop p) line col xs = (r1, r2, r3, r4)) ∧ Aside0 (l0.length < p + kq) ∧ Aside0 (Rdr w0 wr (w.heap.size + 1) A0 l0.length c0 p line col v xs))
 case atStart => exact ⟨0, 1, 1, _, [], Nat.zero_le _, by omega, by omega, by omega, by omega, by simp, H, ⟨by omega⟩, HI⟩
 case round =>
  clear HI H
  obtain ⟨p, line, col, v, xs, hpl, hli0, hli1, hco0, hco1, hxl, HT, HK, HR⟩ := hrel
  obtain ⟨h0, h1, h2, h3, h4, f1, f2, f3, f4⟩ := HR.out.cells
  by_cases hlt : p < l0.length
  ·cases gk with
   | zero => exact absurd HK.out (by omega)
   | succ k1 =>
   have HT2 := HT.out
   clear HT
   simp only [toks] at HT2
   rw [if_neg (by intro e; have := congrArg List.length e; simp at this; omega)] at HT2
   have hd0 : decide ((p : Int) < (l0.length : Int)) = true := by simp; omega
   have hp1 := piece_le (l0.drop p)
   rw [List.length_drop] at hp1
   have hp2 : (piece (l0.drop p)).1 = 0 → 1 ≤ (piece (l0.drop p)).2.1 := piece_pos (by intro e; have := congrArg List.length e; simp at this; omega)
   have HP1 := Aside0.mk hp1
   have HP2 := Aside0.mk hp2
   clear hp1 hp2
   by_cases he : (piece (l0.drop p)).1 = 0
   ·rw [if_neg (by simpa using he)] at HT2
    have HT3 := Aside0.mk HT2
    clear HT2
    have HE := Aside0.mk he
    clear he
    go_wp2_with fail
    go_quiet (fail)
    go_wp2_with (go_at_call 36; refine (next_any w0 _ (w.heap.size + 1) A0 c0 l0 p line col v xs (by omega) hlt HOK.out hli0 (by omega) hco0 (by omega) (by omega) HR1.out hc0 (HR.out.drewN _)).mono ?_; rintro e w' ⟨rfl, HB0, HN⟩; rw [HE.out]; have HNN := Aside0.mk (HN HE.out); clear HN HB0 h0 h1 h2 h3 h4 f1 f2 f3 f4)
    obtain ⟨v', hR⟩ := HNN.out
    go_roundg k1
    case measure => omega
    case rel =>
     refine ⟨p + (piece (l0.drop p)).2.1, _, _, v', _, by have := HP1.out; omega, ?_, ?_, ?_, ?_, ?_, ⟨?_⟩, ⟨?_⟩, ⟨hR⟩⟩
     ·split <;> omega
     ·have := HP2.out HE.out; split <;> omega
     ·split <;> omega
     ·have := HP2.out HE.out; split <;> omega
     ·have h1 : (tokL (piece (l0.drop p)).2.2.1 line col).length ≤ 1 := by unfold tokL; split <;> simp
      have := HP2.out HE.out
      rw [List.length_append]; omega
     ·have := HT3.out
      rw [List.drop_drop] at this
      exact this
     ·have := HP2.out HE.out; have := HK.out; omega
   ·rw [if_pos he] at HT2
    simp only [Prod.mk.injEq] at HT2
    obtain ⟨rfl, hr2, rfl, rfl⟩ := HT2
    have HE := Aside0.mk hr2
    have hne : (r2 == 0) = false := beq_eq_false_iff_ne.mpr (by rw [← hr2]; exact he)
    have hne2 : (r2 != 0) = true := bne_iff_ne.mpr (by rw [← hr2]; exact he)
    clear hr2 he
    go_wp2_with fail
    go_quiet (fail)
    go_wp2_with (go_at_call 36; refine (next_any w0 _ (w.heap.size + 1) A0 c0 l0 p line col v xs (by omega) hlt HOK.out hli0 (by omega) hco0 (by omega) (by omega) HR1.out hc0 (HR.out.drewN _)).mono ?_; rintro e w' ⟨rfl, HB0, HN⟩; rw [HE.out]; have hbk := (HB0.block w.heap.size (by have := HSZ.out; omega)).trans HBL.out; have c0_ := blk_cell hbk 0; have c1_ := blk_cell hbk 1; have c2_ := blk_cell hbk 2; have g0_ := blk_frozen hbk 0; have g1_ := blk_frozen hbk 1; have g2_ := blk_frozen hbk 2; have HBK := Aside0.mk hbk; have HBB := Aside0.mk HB0; clear HN HB0 hbk h0 h1 h2 h3 h4 f1 f2 f3 f4)
    refine bodyPost_ret (results_tc rfl _ _ w.heap.size 38 #[.int .i64 r2, .int .i64 line, .int .i64 col] (0, 0) _ rfl (lex_spot HBK.out _ _ _) Tryd.underlying38 rfl (by kernel_rfl)) rfl ?_
    have hz := lex_ends (v := .slice none 0 0) (ok := fun _ => True) (xs := []) HSZ.out HBE.out HBB.out (Kd.R_nil _ _ _ _ _) (.int .i64 r2) (.int .i64 line) (.int .i64 col)
    exact ⟨_, rfl, hz.1, hz.2⟩
  ·have hd0 : decide ((p : Int) < (l0.length : Int)) = false := by simp; omega
   obtain ⟨k1, hk1⟩ : ∃ k1, gk = k1 + 1 := ⟨gk - 1, by have := HK.out; omega⟩
   subst hk1
   have HT2 := HT.out
   clear HT
   simp only [toks] at HT2
   rw [if_pos (List.drop_eq_nil_of_le (by omega))] at HT2
   simp only [Prod.mk.injEq] at HT2
   obtain ⟨hr1, rfl, rfl, rfl⟩ := HT2
   have HX := Aside0.mk hr1
   clear hr1
   go_wp2_with (go_at_call 37; refine (add_any w0 _ (w.heap.size + 1) A0 _ c0 p line col v xs 4 0 col ⟨#[]⟩ (by omega) HR.out).mono ?_; rintro e w' ⟨rfl, v', HR2⟩; have hbk := (HR2.2.2.1.block w.heap.size (by have := HSZ.out; omega)).trans HBL.out; have c0_ := blk_cell hbk 0; have c1_ := blk_cell hbk 1; have c2_ := blk_cell hbk 2; have g0_ := blk_frozen hbk 0; have g1_ := blk_frozen hbk 1; have g2_ := blk_frozen hbk 2; have HBK := Aside0.mk hbk; have HRr := Aside0.mk HR2; clear HR2 hbk h0 h1 h2 h3 h4 f1 f2 f3 f4; obtain ⟨h0, h1, h2, h3, h4, f1, f2, f3, f4⟩ := HRr.out.cells)
   refine bodyPost_ret (results_tc rfl _ _ w.heap.size 38 #[.int .i64 0, .int .i64 0, .int .i64 0] (0, 0) _ rfl (lex_spot HBK.out _ _ _) Tryd.underlying38 rfl (by kernel_rfl)) rfl ?_
   have hz := lex_ends HSZ.out HBE.out HRr.out.2.2.1 HRr.out.2.1 (.int .i64 0) (.int .i64 0) (.int .i64 0)
   rw [HX.out] at hz
   exact ⟨_, rfl, hz.1, hz.2⟩
end Go.Proofs.YtadfcdpalcgghaaDoor.Q

-- How the plain function of chapter 4 goes on, and what a text's bytes are.
namespace Go.Proofs.YtadfcdpalcgghaaDoor.Q
open Go.RowKit Go.Proofs.YtadfcdpalcgghaaDoorW.PrintWords Go.Proofs.YtadfcdpalcgghaaDoorW.PrintLast Go.Proofs.YtadfcdpalcgghaaDoorW.PrintMore
attribute [local go_sem] max2_int min2_int max_two min_two max_three min_three max_four min_four   -- for this text's walks alone
set_option linter.unusedVariables false
set_option linter.unusedSimpArgs false

theorem toks_end (f : Nat) (line col : Int) (xs : List S61) : toks (f + 1) [] line col xs = (xs ++ [⟨4, (⟨#[]⟩ : ByteArray), 0, line, col⟩], 0, 0, 0) := by simp only [toks]; rw [if_pos trivial]
theorem toks_err {f : Nat} {s : List Int} {line col : Int} {xs : List S61} (hs : s ≠ []) (he : (piece s).1 ≠ 0) : toks (f + 1) s line col xs = ([], (piece s).1, line, col) := by simp only [toks]; rw [if_neg hs, if_pos he]
theorem toks_go {f : Nat} {s : List Int} {line col : Int} {xs : List S61} (hs : s ≠ []) (he : (piece s).1 = 0) : toks (f + 1) s line col xs = toks f (s.drop (piece s).2.1) (if (piece s).2.2.2 = true then line + 1 else line) (if (piece s).2.2.2 = true then 1 else col + (piece s).2.1) (xs ++ tokL (piece s).2.2.1 line col) := by simp only [toks]; rw [if_neg hs, if_neg (by rw [he]; exact fun h => h rfl)]
theorem ok_of_wf {l : List Int} (h : ∀ x ∈ l, (Lit.int .u8 x).wf = true) : okBytes l = true := by
 refine List.all_eq_true.2 fun x hx => ?_
 have := Go.bounds_u8 (h x hx)
 simp
 omega
end Go.Proofs.YtadfcdpalcgghaaDoor.Q
