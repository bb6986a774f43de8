-- Texts of this claim, put together: Hlex, LlexP, LlexJ, LlexK, LlexR.
import Derived.Test.YtddbkcfdfgehkaaDoorM0
import Derived.Test.YtddbkcfdfgehkaaDoorHlexA
import Derived.Test.YtddbkcfdfgehkaaDoorHlexC
import Derived.OpenShut
import Derived.Test.YtddbkcfdfgehkaaDoorQ10
import Derived.Test.YtddbkcfdfgehkaaDoorQ11
import Derived.Test.YtddbkcfdfgehkaaDoorHlexB
-- The tokens of a text, as lex.Tokens tells them: proved by hand, in the printer's form.
namespace Go.Proofs.YtddbkcfdfgehkaaDoor.Q
open Go.RowKit Go.Proofs.YtddbkcfdfgehkaaDoorW.PrintWords Go.Proofs.YtddbkcfdfgehkaaDoorW.PrintLast Go.Proofs.YtddbkcfdfgehkaaDoorW.PrintMore
attribute [local go_sem] max2_int min2_int max_two min_two max_three min_three max_four min_four   -- for this text's walks alone
set_option linter.unusedVariables false
set_option linter.unusedSimpArgs false

def lex_Tokens.f (l0 : List Int) : Option ((List (S46)) × Int × Int × Int) := if okBytes l0 = true ∧ l0.length ≤ 1000000 then some (lexToks l0) else none
theorem lex_ends {w w0 w' : World} {v : Value} {ok : Nat → Prop} {xs : List S46} (hsz : w0.heap.size = w.heap.size + 1) (hbe : Below w.heap.size w w0) (hb : Below w0.heap.size w0 w') (hR : Kd.R k46 46 w' w0.heap.size ok v xs) (x y z : Value) :
  Kd.R k46 46 (((w'.setCell ⟨w.heap.size, 0, none⟩ x).setCell ⟨w.heap.size, 1, none⟩ y).setCell ⟨w.heap.size, 2, none⟩ z) w.heap.size (fun _ => True) v xs ∧ Below w.heap.size w (((w'.setCell ⟨w.heap.size, 0, none⟩ x).setCell ⟨w.heap.size, 1, none⟩ y).setCell ⟨w.heap.size, 2, none⟩ z) := by
 have hn : ∀ k : Nat, (ok k ∧ w0.heap.size ≤ k ∧ k < w'.heap.size ∧ ∃ q, q ∈ 46 :: k46.E ∧ ∃ cells, w'.heap[k]? = some (.cells cells q (0, 0))) → k ≠ w.heap.size := fun k hk => by omega
 refine ⟨Kd.R_lower (Kd.R_mono (Kd.R_far (Kd.R_far (Kd.R_far (Kd.R_bound hR) hn x) hn y) hn z) (fun _ _ => trivial)) (by omega), ?_⟩
 exact (((hbe.trans (hb.mono (by omega))).setCell (Nat.le_refl _) x).setCell (Nat.le_refl _) y).setCell (Nat.le_refl _) z
theorem lex_spot {b : Nat} {W : World} {t : TypeId} {x0 y0 z0 : Value} (h : W.heap[b]? = some (.cells #[x0, y0, z0] t (0, 0))) (x y z : Value) : (((W.setCell ⟨b, 0, none⟩ x).setCell ⟨b, 1, none⟩ y).setCell ⟨b, 2, none⟩ z).heap[b]? = some (.cells #[x, y, z] t (0, 0)) :=
 blk_put (blk_put (blk_put h 0 x rfl) 1 y rfl) 2 z rfl
set_option maxHeartbeats 1000000 in
set_option maxRecDepth 100000 in
theorem lex_Tokens.calls (A0 : Option Addr) (c0 : Nat) (l0 : List Int) (r1 : List (S46)) (r2 : Int) (r3 : Int) (r4 : Int) (w : World) (hr0 : Kd.C (Kd.int .u8) w A0 l0.length l0) (hc0 : l0.length ≤ c0) (h : lex_Tokens.f l0 = some (r1, r2, r3, r4)) :
  Calls Tryd.prog 16 #[.slice A0 l0.length c0] w fun e w' => ∃ v0_ : Value, e = .returned (.tuple #[v0_, .agg #[.int .i64 r2, .int .i64 r3, .int .i64 r4]]) ∧ Kd.R k46 46 w' w.heap.size (fun _ => True) v0_ r1 ∧ Below w.heap.size w w' := by
 unfold lex_Tokens.f at h
 split at h
 case isFalse => exact absurd h (by simp)
 case isTrue hcond =>
 obtain ⟨hok, hlen⟩ := hcond
 have H := Aside0.mk (Option.some.inj h)
 have HOK := Aside0.mk hok
 have HR0 := Aside0.mk hr0
 clear h hok hr0
 go_enter Tryd.func16, Tryd.ntmps16
 go_wp2
 obtain ⟨w0, hw0⟩ : ∃ w0, w0 = w.alloc (.cells #[.int .i64 0, .int .i64 0, .int .i64 0] 29) := ⟨_, rfl⟩
 have hsz : w0.heap.size = w.heap.size + 1 := by rw [hw0]; simp
 have hbl : w0.heap[w.heap.size]? = some (.cells #[.int .i64 0, .int .i64 0, .int .i64 0] 29 (0, 0)) := by rw [hw0]; exact blk_new _ _
 have hbe : Below w.heap.size w w0 := by rw [hw0]; exact below_alloc (Below.refl _ _) _
 have HI : Aside0 (Rdr w0 (w0.alloc (.cells #[.slice A0 l0.length c0, .int .i64 0, .int .i64 1, .int .i64 1, .slice none 0 0] 62)) (w.heap.size + 1) A0 l0.length c0 0 1 1 (.slice none 0 0) []) := ⟨⟨by rw [← hsz]; exact blk_new _ _, Kd.R_nil _ _ _ _ _, below_alloc (Below.refl _ _) _, by omega⟩⟩
 rw [← hw0]
 have HR1 := Aside0.mk (Kd.C_below HR0.out hbe)
 have HBE := Aside0.mk hbe
 have HBL := Aside0.mk hbl
 have HSZ := Aside0.mk hsz
 clear hw0 HR0 hbl hbe hsz
 go_loopg [] (l0.length + 1) (fun kq wr => ∃ (p : Nat) (line col : Int) (v : Value) (xs : List S46), p ≤ l0.length ∧ 0 ≤ line ∧ line ≤ p + 1 ∧ 0 ≤ col ∧ col ≤ p + 1 ∧ xs.length ≤ p ∧ Aside0 (toks kq (l0.drop p) line col xs = (r1, r2, r3, r4)) ∧ Aside0 (l0.length < p + kq) ∧ Aside0 (Rdr w0 wr (w.heap.size + 1) A0 l0.length c0 p line col v xs))
 case atStart => exact ⟨0, 1, 1, _, [], Nat.zero_le _, by omega, by omega, by omega, by omega, by simp, H, ⟨by omega⟩, HI⟩
 case round =>
  clear HI H
  obtain ⟨p, line, col, v, xs, hpl, hli0, hli1, hco0, hco1, hxl, HT, HK, HR⟩ := hrel
  obtain ⟨h0, h1, h2, h3, h4, f1, f2, f3, f4⟩ := HR.out.cells
  by_cases hlt : p < l0.length
  ·cases gk with
   | zero => exact absurd HK.out (by omega)
   | succ k1 =>
   have HT2 := HT.out
   clear HT
   simp only [toks] at HT2
   rw [if_neg (by intro e; have := congrArg List.length e; simp at this; omega)] at HT2
   have hd0 : decide ((p : Int) < (l0.length : Int)) = true := by simp; omega
   have hp1 := piece_le (l0.drop p)
   rw [List.length_drop] at hp1
   have hp2 : (piece (l0.drop p)).1 = 0 → 1 ≤ (piece (l0.drop p)).2.1 := piece_pos (by intro e; have := congrArg List.length e; simp at this; omega)
   have HP1 := Aside0.mk hp1
   have HP2 := Aside0.mk hp2
   clear hp1 hp2
   by_cases he : (piece (l0.drop p)).1 = 0
   ·rw [if_neg (by simpa using he)] at HT2
    have HT3 := Aside0.mk HT2
    clear HT2
    have HE := Aside0.mk he
    clear he
    go_wp2_with fail
    go_quiet (fail)
    go_wp2_with (go_at_call 29; refine (next_any w0 _ (w.heap.size + 1) A0 c0 l0 p line col v xs (by omega) hlt HOK.out hli0 (by omega) hco0 (by omega) (by omega) HR1.out hc0 (HR.out.drewN _)).mono ?_; rintro e w' ⟨rfl, HB0, HN⟩; rw [HE.out]; have HNN := Aside0.mk (HN HE.out); clear HN HB0 h0 h1 h2 h3 h4 f1 f2 f3 f4)
    obtain ⟨v', hR⟩ := HNN.out
    go_roundg k1
    case measure => omega
    case rel =>
     refine ⟨p + (piece (l0.drop p)).2.1, _, _, v', _, by have := HP1.out; omega, ?_, ?_, ?_, ?_, ?_, ⟨?_⟩, ⟨?_⟩, ⟨hR⟩⟩
     ·split <;> omega
     ·have := HP2.out HE.out; split <;> omega
     ·split <;> omega
     ·have := HP2.out HE.out; split <;> omega
     ·have h1 : (tokL (piece (l0.drop p)).2.2.1 line col).length ≤ 1 := by unfold tokL; split <;> simp
      have := HP2.out HE.out
      rw [List.length_append]; omega
     ·have := HT3.out
      rw [List.drop_drop] at this
      exact this
     ·have := HP2.out HE.out; have := HK.out; omega
   ·rw [if_pos he] at HT2
    simp only [Prod.mk.injEq] at HT2
    obtain ⟨rfl, hr2, rfl, rfl⟩ := HT2
    have HE := Aside0.mk hr2
    have hne : (r2 == 0) = false := beq_eq_false_iff_ne.mpr (by rw [← hr2]; exact he)
    have hne2 : (r2 != 0) = true := bne_iff_ne.mpr (by rw [← hr2]; exact he)
    clear hr2 he
    go_wp2_with fail
    go_quiet (fail)
    go_wp2_with (go_at_call 29; refine (next_any w0 _ (w.heap.size + 1) A0 c0 l0 p line col v xs (by omega) hlt HOK.out hli0 (by omega) hco0 (by omega) (by omega) HR1.out hc0 (HR.out.drewN _)).mono ?_; rintro e w' ⟨rfl, HB0, HN⟩; rw [HE.out]; have hbk := (HB0.block w.heap.size (by have := HSZ.out; omega)).trans HBL.out; have c0_ := blk_cell hbk 0; have c1_ := blk_cell hbk 1; have c2_ := blk_cell hbk 2; have g0_ := blk_frozen hbk 0; have g1_ := blk_frozen hbk 1; have g2_ := blk_frozen hbk 2; have HBK := Aside0.mk hbk; have HBB := Aside0.mk HB0; clear HN HB0 hbk h0 h1 h2 h3 h4 f1 f2 f3 f4)
    refine bodyPost_ret (results_tc rfl _ _ w.heap.size 29 #[.int .i64 r2, .int .i64 line, .int .i64 col] (0, 0) _ rfl (lex_spot HBK.out _ _ _) Tryd.underlying29 rfl (by kernel_rfl)) rfl ?_
    have hz := lex_ends (v := .slice none 0 0) (ok := fun _ => True) (xs := []) HSZ.out HBE.out HBB.out (Kd.R_nil _ _ _ _ _) (.int .i64 r2) (.int .i64 line) (.int .i64 col)
    exact ⟨_, rfl, hz.1, hz.2⟩
  ·have hd0 : decide ((p : Int) < (l0.length : Int)) = false := by simp; omega
   obtain ⟨k1, hk1⟩ : ∃ k1, gk = k1 + 1 := ⟨gk - 1, by have := HK.out; omega⟩
   subst hk1
   have HT2 := HT.out
   clear HT
   simp only [toks] at HT2
   rw [if_pos (List.drop_eq_nil_of_le (by omega))] at HT2
   simp only [Prod.mk.injEq] at HT2
   obtain ⟨hr1, rfl, rfl, rfl⟩ := HT2
   have HX := Aside0.mk hr1
   clear hr1
   go_wp2_with (go_at_call 30; refine (add_any w0 _ (w.heap.size + 1) A0 _ c0 p line col v xs 4 0 col ⟨#[]⟩ (by omega) HR.out).mono ?_; rintro e w' ⟨rfl, v', HR2⟩; have hbk := (HR2.2.2.1.block w.heap.size (by have := HSZ.out; omega)).trans HBL.out; have c0_ := blk_cell hbk 0; have c1_ := blk_cell hbk 1; have c2_ := blk_cell hbk 2; have g0_ := blk_frozen hbk 0; have g1_ := blk_frozen hbk 1; have g2_ := blk_frozen hbk 2; have HBK := Aside0.mk hbk; have HRr := Aside0.mk HR2; clear HR2 hbk h0 h1 h2 h3 h4 f1 f2 f3 f4; obtain ⟨h0, h1, h2, h3, h4, f1, f2, f3, f4⟩ := HRr.out.cells)
   refine bodyPost_ret (results_tc rfl _ _ w.heap.size 29 #[.int .i64 0, .int .i64 0, .int .i64 0] (0, 0) _ rfl (lex_spot HBK.out _ _ _) Tryd.underlying29 rfl (by kernel_rfl)) rfl ?_
   have hz := lex_ends HSZ.out HBE.out HRr.out.2.2.1 HRr.out.2.1 (.int .i64 0) (.int .i64 0) (.int .i64 0)
   rw [HX.out] at hz
   exact ⟨_, rfl, hz.1, hz.2⟩
end Go.Proofs.YtddbkcfdfgehkaaDoor.Q

-- How the plain function of chapter 4 goes on, and what a text's bytes are.
namespace Go.Proofs.YtddbkcfdfgehkaaDoor.Q
open Go.RowKit Go.Proofs.YtddbkcfdfgehkaaDoorW.PrintWords Go.Proofs.YtddbkcfdfgehkaaDoorW.PrintLast Go.Proofs.YtddbkcfdfgehkaaDoorW.PrintMore
attribute [local go_sem] max2_int min2_int max_two min_two max_three min_three max_four min_four   -- for this text's walks alone
set_option linter.unusedVariables false
set_option linter.unusedSimpArgs false

theorem toks_end (f : Nat) (line col : Int) (xs : List S46) : toks (f + 1) [] line col xs = (xs ++ [⟨4, (⟨#[]⟩ : ByteArray), 0, line, col⟩], 0, 0, 0) := by simp only [toks]; rw [if_pos trivial]
theorem toks_err {f : Nat} {s : List Int} {line col : Int} {xs : List S46} (hs : s ≠ []) (he : (piece s).1 ≠ 0) : toks (f + 1) s line col xs = ([], (piece s).1, line, col) := by simp only [toks]; rw [if_neg hs, if_pos he]
theorem toks_go {f : Nat} {s : List Int} {line col : Int} {xs : List S46} (hs : s ≠ []) (he : (piece s).1 = 0) : toks (f + 1) s line col xs = toks f (s.drop (piece s).2.1) (if (piece s).2.2.2 = true then line + 1 else line) (if (piece s).2.2.2 = true then 1 else col + (piece s).2.1) (xs ++ tokL (piece s).2.2.1 line col) := by simp only [toks]; rw [if_neg hs, if_neg (by rw [he]; exact fun h => h rfl)]
theorem ok_of_wf {l : List Int} (h : ∀ x ∈ l, (Lit.int .u8 x).wf = true) : okBytes l = true := by
 refine List.all_eq_true.2 fun x hx => ?_
 have := Go.bounds_u8 (h x hx)
 simp
 omega
theorem wrap_ok {x : Int} (h0 : -1000000000000000000 ≤ x) (h1 : x ≤ 1000000000000000000) : wrap64 x = x := by unfold wrap64; omega
end Go.Proofs.YtddbkcfdfgehkaaDoor.Q

-- Texts put together, as the plain function of chapter 4 reads them.
namespace Go.Proofs.YtddbkcfdfgehkaaDoor.Q
open Go.RowKit Go.Proofs.YtddbkcfdfgehkaaDoorW.PrintWords Go.Proofs.YtddbkcfdfgehkaaDoorW.PrintLast Go.Proofs.YtddbkcfdfgehkaaDoorW.PrintMore
attribute [local go_sem] max2_int min2_int max_two min_two max_three min_three max_four min_four   -- for this text's walks alone
set_option linter.unusedVariables false
set_option linter.unusedSimpArgs false

theorem tw_mem {P : Int → Bool} {s : List Int} : ∀ x ∈ s.takeWhile P, P x = true := by
 intro x hx
 induction s with
 | nil => simp at hx
 | cons c s ih =>
  rw [List.takeWhile_cons] at hx
  split at hx
  ·rename_i hc
   rcases List.mem_cons.1 hx with rfl | hx
   ·exact hc
   ·exact ih hx
  ·simp at hx
theorem tw_take (P : Int → Bool) (s : List Int) : s.take (s.takeWhile P).length = s.takeWhile P := by
 have := take_span P s 0
 simpa using this
/-- Which bytes a piece has, and what it adds. -/
theorem piece_adds {s : List Int} (hs : s ≠ []) (he : (piece s).1 = 0) :
  ((piece s).2.2.2 = true ∧ (piece s).2.1 = 1 ∧ s.take 1 = [10] ∧ (piece s).2.2.1 = some (3, (⟨#[]⟩ : ByteArray), 0)) ∨
  ((piece s).2.2.2 = false ∧ (∀ x ∈ s.take (piece s).2.1, x ≠ 10) ∧ ((piece s).2.2.1 = none ∨ ∃ k x v, (k = 1 ∨ k = 2) ∧ (piece s).2.2.1 = some (k, x, v))) := by
 cases s with
 | nil => exact absurd rfl hs
 | cons c s =>
  rcases piece_ways c s with h | ⟨h1, h2, ⟨n, h⟩ | h⟩ | rfl | rfl | rfl | rfl | ⟨h1, h2, h3, h4, h5, h6⟩
  ·rw [piece_word h]
   refine .inr ⟨rfl, ?_, .inr ⟨1, _, _, .inl rfl, rfl⟩⟩
   show ∀ x ∈ (c :: s).take ((c :: s).takeWhile wdB).length, x ≠ 10
   rw [tw_take]
   rintro x hx rfl
   exact absurd (tw_mem _ hx) (by decide)
  ·rw [piece_number h1 h2 h]
   refine .inr ⟨rfl, ?_, .inr ⟨2, _, _, .inr rfl, rfl⟩⟩
   show ∀ x ∈ (c :: s).take ((c :: s).takeWhile dgB).length, x ≠ 10
   rw [tw_take]
   rintro x hx rfl
   exact absurd (tw_mem _ hx) (by decide)
  ·rw [piece_over h1 h2 h] at he; exact absurd he (by decide)
  ·exact .inl ⟨rfl, rfl, rfl, rfl⟩
  ·rw [piece_space]; exact .inr ⟨rfl, by simp, .inl rfl⟩
  ·rw [piece_tab]; exact .inr ⟨rfl, by simp, .inl rfl⟩
  ·rw [piece_remark]
   refine .inr ⟨rfl, ?_, .inl rfl⟩
   show ∀ x ∈ (35 :: s).take ((35 :: s).takeWhile rkB).length, x ≠ 10
   rw [tw_take]
   rintro x hx rfl
   exact absurd (tw_mem _ hx) (by decide)
  ·rw [piece_bad h1 h2 h3 h4 h5 h6] at he; exact absurd he (by decide)
end Go.Proofs.YtddbkcfdfgehkaaDoor.Q

-- A text read further down: the same tokens, some lines further.
namespace Go.Proofs.YtddbkcfdfgehkaaDoor.Q
open Go.RowKit Go.Proofs.YtddbkcfdfgehkaaDoorW.PrintWords Go.Proofs.YtddbkcfdfgehkaaDoorW.PrintLast Go.Proofs.YtddbkcfdfgehkaaDoorW.PrintMore
attribute [local go_sem] max2_int min2_int max_two min_two max_three min_three max_four min_four   -- for this text's walks alone
set_option linter.unusedVariables false
set_option linter.unusedSimpArgs false

end Go.Proofs.YtddbkcfdfgehkaaDoor.Q

-- The reference of chapter 4 tells the plain function's tokens.
namespace Go.Proofs.YtddbkcfdfgehkaaDoor.Q
open Go.RowKit Go.Proofs.YtddbkcfdfgehkaaDoorW.PrintWords Go.Proofs.YtddbkcfdfgehkaaDoorW.PrintLast Go.Proofs.YtddbkcfdfgehkaaDoorW.PrintMore
attribute [local go_sem] max2_int min2_int max_two min_two max_three min_three max_four min_four   -- for this text's walks alone
set_option linter.unusedVariables false
set_option linter.unusedSimpArgs false

def kindOf (c : Int) : Int := if smB c = true then 1 else if dgB c = true then 2 else if c = 95 then 3 else if c = 32 then 4 else if c = 9 then 4 else if c = 10 then 5 else if c = 35 then 6 else 0
theorem kind_at (c : Int) (k : Nat) (hk : 3 ≤ k) : pendulumref04_kind.f k c = some (kindOf c) := by
 obtain ⟨k, rfl⟩ : ∃ m, k = m + 3 := ⟨k - 3, by omega⟩
 have hs : (if c ≥ 97 then decide (c ≤ 122) else false) = smB c := by
  unfold smB; by_cases h : c ≥ 97
  ·rw [if_pos h]; simp; omega
  ·rw [if_neg h]; simp; omega
 have hd : (if c ≥ 48 then decide (c ≤ 57) else false) = dgB c := by
  unfold dgB; by_cases h : c ≥ 48
  ·rw [if_pos h]; simp; omega
  ·rw [if_neg h]; simp; omega
 have h0 : pendulumref04_kind.f (k + 3) c = pendulumref04_kind.j0 (k + 3) c (smB c) := by
  unfold pendulumref04_kind.f; rw [← hs]; split <;> rfl
 have h1 : pendulumref04_kind.j0 (k + 3) c (smB c) = if smB c = true then some 1 else pendulumref04_kind.j1 (k + 2) c (dgB c) := by
  simp only [pendulumref04_kind.j0]; rw [← hd]; split
  ·rfl
  ·split <;> rfl
 rw [h0, h1]
 unfold kindOf
 split
 ·rfl
 ·simp only [pendulumref04_kind.j1]
  split
  ·rfl
  ·split
   ·rfl
   ·by_cases h32 : c = 32
    ·rw [if_pos h32, if_pos h32]; rfl
    ·rw [if_neg h32, if_neg h32]
     simp only [pendulumref04_kind.j2]
     by_cases h9 : c = 9
     ·rw [if_pos h9, if_pos (by simpa using h9)]
     ·rw [if_neg h9, if_neg (by simpa using h9)]
      split
      ·rfl
      ·split <;> rfl
theorem kindOf_sm {c : Int} (h : smB c = true) : kindOf c = 1 := by unfold kindOf; rw [if_pos h]
theorem kindOf_dg {c : Int} (h1 : ¬ smB c = true) (h : dgB c = true) : kindOf c = 2 := by unfold kindOf; rw [if_neg h1, if_pos h]
theorem kindOf_bad {c : Int} (h1 : ¬ smB c = true) (h2 : ¬ dgB c = true) (h3 : c ≠ 10) (h4 : c ≠ 32) (h5 : c ≠ 9) (h6 : c ≠ 35) : kindOf c = 3 ∨ kindOf c = 0 := by
 unfold kindOf; rw [if_neg h1, if_neg h2, if_neg h4, if_neg h5, if_neg h3, if_neg h6]
 split
 ·exact .inl rfl
 ·exact .inr rfl
theorem kindOf_word (c : Int) : (1 ≤ kindOf c ∧ kindOf c ≤ 3) ↔ wdB c = true := by
 unfold kindOf wdB
 by_cases h1 : smB c = true
 ·rw [if_pos h1]; simp [h1]
 ·rw [if_neg h1]
  by_cases h2 : dgB c = true
  ·rw [if_pos h2]; simp [h2]
  ·rw [if_neg h2]
   by_cases h3 : c = 95
   ·rw [if_pos h3]; simp [h3]
   ·rw [if_neg h3]
    have e1 : smB c = false := Bool.eq_false_iff.mpr h1
    have e2 : dgB c = false := Bool.eq_false_iff.mpr h2
    rw [e1, e2]
    simp only [Bool.or_self, Bool.false_or, beq_iff_eq, h3, iff_false]
    repeat' split
    all_goals omega
theorem kindOf_digit (c : Int) : kindOf c = 2 ↔ dgB c = true := by
 unfold kindOf
 by_cases h1 : smB c = true
 ·rw [if_pos h1]
  constructor
  ·intro h; exact absurd h (by decide)
  ·intro h; unfold smB at h1; unfold dgB at h; simp at h1 h; omega
 ·rw [if_neg h1]
  by_cases h2 : dgB c = true
  ·rw [if_pos h2]; simp [h2]
  ·rw [if_neg h2]
   simp only [h2, iff_false]
   repeat' split
   all_goals simp
theorem kindOf_line (c : Int) : kindOf c = 5 ↔ c = 10 := by
 unfold kindOf smB dgB
 constructor
 ·intro h
  repeat' (first | assumption | (split at h))
  all_goals first | assumption | (exfalso; omega)
 ·rintro rfl; rfl
theorem value_ev (t : List Int) (hd : ∀ x ∈ t, 48 ≤ x ∧ x ≤ 57) (hl : t.length ≤ 1000000) (n : Nat) : ∀ (i : Nat) (m : Int), i + n = t.length → 0 ≤ m → m ≤ 1099511627776 →
  Ev (fun k => pendulumref04_Value.l0 k (strOfNums t) m i) (match valGo m (t.drop i) with | none => (0, false) | some v => (v, true)) := by
 induction n with
 | zero =>
  intro i m hi h0 h1
  have e : t.drop i = [] := List.drop_eq_nil_of_le (by omega)
  rw [e]
  refine Ev.step (f := fun _ => some (m, true)) (fun k => ?_) (Ev.now _)
  simp only [pendulumref04_Value.l0]
  rw [strOfNums_size, if_neg (by omega)]
 | succ n ih =>
  intro i m hi h0 h1
  have hlt : i < t.length := by omega
  have hb := bt_str t hd i hlt
  have hx := hd _ (List.getElem_mem hlt)
  have hg : t.getD i 0 = t[i] := by simp [List.getD_eq_getElem?_getD, List.getElem?_eq_getElem hlt]
  rw [← hg] at hx
  rw [drop_getD t i hlt]
  simp only [valGo]
  have hw : wrap64 (wrap64 (wrap64 (10 * m) + wrap64 (bt (strOfNums t) (i : Int))) - 48) = 10 * m + (t.getD i 0 - 48) := by
   rw [hb, wrap_ok (x := 10 * m) (by omega) (by omega), wrap_ok (x := t.getD i 0) (by omega) (by omega), wrap_ok (x := 10 * m + t.getD i 0) (by omega) (by omega), wrap_ok (by omega) (by omega)]; omega
  by_cases ho : 10 * m + (t.getD i 0 - 48) > 1099511627776
  ·rw [if_pos ho]
   refine Ev.step (f := fun _ => some (0, false)) (fun k => ?_) (Ev.now _)
   simp only [pendulumref04_Value.l0]
   rw [strOfNums_size, if_pos (by omega), if_pos (by omega), hw, if_pos ho]
  ·rw [if_neg ho]
   have := ih (i + 1) (10 * m + (t.getD i 0 - 48)) (by omega) (by omega) (by omega)
   refine Ev.step (fun k => ?_) this
   simp only [pendulumref04_Value.l0]
   rw [strOfNums_size, if_pos (by omega), if_pos (by omega), hw, if_neg ho, wrap_ok (by omega) (by omega)]
   rfl
theorem Ev.at {α : Type} {g : Nat → Option α} {r : α} (h : Ev g r) : ∃ K, ∀ k, K ≤ k → g k = some r := h
theorem l1_ev (l xs : List _) (line b col : Int) (p : Nat) (r : List S46 × Int × Int × Int) (hl : l.length ≤ 1000000) (hx : xs.length ≤ 1000000) (e : Nat) (he : e ≤ l.length) (hpe : p ≤ e)
  (hr : Ev (fun k => pendulumref04_Tokens.l0 k l (xs ++ [⟨1, strOfNums ((l.take e).drop p), 0, line, col⟩]) line b e) r) (n : Nat) : ∀ j : Nat, j + n = l.length → p ≤ j → j + ((l.drop j).takeWhile wdB).length = e →
  Ev (fun k => pendulumref04_Tokens.l1 k l xs line b p col j) r := by
 obtain ⟨K, hK⟩ := hr
 induction n with
 | zero =>
  intro j hj hpj hje
  have hj' : j = e := span_end wdB l j e (by omega) hje
  subst hj'
  refine ⟨K + 1, fun k hk => ?_⟩
  obtain ⟨k, rfl⟩ : ∃ m, k = m + 1 := ⟨k - 1, by omega⟩
  simp only [pendulumref04_Tokens.l1]
  rw [if_neg (by omega), if_pos (by omega), if_pos (by omega), if_pos (by omega), if_pos (by omega)]
  exact hK k (by omega)
 | succ n ih =>
  intro j hj hpj hje
  have hlt : j < l.length := by omega
  by_cases hw : wdB (rd l j) = true
  ·have h12 := (kindOf_word (rd l j)).2 hw
   obtain ⟨K2, hK2⟩ := ih (j + 1) (by omega) (by omega) (span_step wdB l j e hlt hw hje)
   refine ⟨K2 + 4, fun k hk => ?_⟩
   obtain ⟨k, rfl⟩ : ∃ m, k = m + 1 := ⟨k - 1, by omega⟩
   simp only [pendulumref04_Tokens.l1]
   rw [if_pos (by omega), if_pos (by omega), kind_at _ k (by omega)]
   simp only [Option.bind_some]
   rw [if_pos h12.1, if_pos h12.2, wrap_ok (by omega) (by omega)]
   exact hK2 k (by omega)
  ·have h12 : ¬ (1 ≤ kindOf (rd l j) ∧ kindOf (rd l j) ≤ 3) := fun h => hw ((kindOf_word (rd l j)).1 h)
   have hj' : j = e := span_stop wdB l j e hlt (Bool.eq_false_iff.mpr hw) hje
   subst hj'
   refine ⟨K + 4, fun k hk => ?_⟩
   obtain ⟨k, rfl⟩ : ∃ m, k = m + 1 := ⟨k - 1, by omega⟩
   simp only [pendulumref04_Tokens.l1]
   rw [if_pos (by omega), if_pos (by omega), kind_at _ k (by omega)]
   simp only [Option.bind_some]
   have hK1 := hK k (by omega)
   by_cases h1 : kindOf (rd l j) ≥ 1
   ·rw [if_pos h1, if_neg (by omega), if_pos (by omega), if_pos (by omega), if_pos (by omega), if_pos (by omega)]
    exact hK1
   ·rw [if_neg h1, if_pos (by omega), if_pos (by omega), if_pos (by omega), if_pos (by omega)]
    exact hK1
theorem l3_ev (l xs : List _) (line b : Int) (r : List S46 × Int × Int × Int) (hl : l.length ≤ 1000000) (e : Nat)
  (hr : Ev (fun k => pendulumref04_Tokens.l0 k l xs line b e) r) (n : Nat) : ∀ j : Nat, j + n = l.length → j + ((l.drop j).takeWhile rkB).length = e →
  Ev (fun k => pendulumref04_Tokens.l3 k l xs line b j) r := by
 obtain ⟨K, hK⟩ := hr
 induction n with
 | zero =>
  intro j hj hje
  have hj' : j = e := span_end rkB l j e (by omega) hje
  subst hj'
  refine ⟨K + 1, fun k hk => ?_⟩
  obtain ⟨k, rfl⟩ : ∃ m, k = m + 1 := ⟨k - 1, by omega⟩
  simp only [pendulumref04_Tokens.l3]
  rw [if_neg (by omega)]
  exact hK k (by omega)
 | succ n ih =>
  intro j hj hje
  have hlt : j < l.length := by omega
  by_cases hw : rkB (rd l j) = true
  ·have h5 : ¬ kindOf (rd l j) = 5 := fun h => by rw [(kindOf_line _).1 h] at hw; exact absurd hw (by decide)
   obtain ⟨K2, hK2⟩ := ih (j + 1) (by omega) (span_step rkB l j e hlt hw hje)
   refine ⟨K2 + 4, fun k hk => ?_⟩
   obtain ⟨k, rfl⟩ : ∃ m, k = m + 1 := ⟨k - 1, by omega⟩
   simp only [pendulumref04_Tokens.l3]
   rw [if_pos (by omega), if_pos (by omega), kind_at _ k (by omega)]
   simp only [Option.bind_some]
   rw [if_neg h5, wrap_ok (by omega) (by omega)]
   exact hK2 k (by omega)
  ·have hc : rd l j = 10 := by unfold rkB at hw; simpa using hw
   have hj' : j = e := span_stop rkB l j e hlt (Bool.eq_false_iff.mpr hw) hje
   subst hj'
   refine ⟨K + 4, fun k hk => ?_⟩
   obtain ⟨k, rfl⟩ : ∃ m, k = m + 1 := ⟨k - 1, by omega⟩
   simp only [pendulumref04_Tokens.l3]
   rw [if_pos (by omega), if_pos (by omega), kind_at _ k (by omega)]
   simp only [Option.bind_some]
   rw [if_pos ((kindOf_line _).2 hc)]
   exact hK k (by omega)
/-- What stands behind a number's digits. -/
theorem l2_ev (l xs : List _) (line b col : Int) (p : Nat) (r : List S46 × Int × Int × Int) (hl : l.length ≤ 1000000) (hx : xs.length ≤ 1000000) (e : Nat) (he : e ≤ l.length) (hpe : p ≤ e) (hd : ∀ x ∈ (l.take e).drop p, 48 ≤ x ∧ x ≤ 57)
  (hr : match valGo 0 ((l.take e).drop p) with
   | none => r = ([], 2, line, col)
   | some v => Ev (fun k => pendulumref04_Tokens.l0 k l (xs ++ [⟨2, strOfNums ((l.take e).drop p), v, line, col⟩]) line b e) r) (n : Nat) : ∀ j : Nat, j + n = l.length → p ≤ j → j + ((l.drop j).takeWhile dgB).length = e →
  Ev (fun k => pendulumref04_Tokens.l2 k l xs line b p col j) r := by
 obtain ⟨K, hK⟩ : ∃ K, ∀ k, K ≤ k → ((pendulumref04_Value.f k (strOfNums ((l.take e).drop p))).bind fun bt128 => (if bt128.2 = true then (if xs.length < 2932031007402 then (pendulumref04_Tokens.l0 k l (xs ++ [(⟨2, strOfNums ((l.take e).drop p), bt128.1, line, col⟩ : S46)]) line b e) else (none)) else (some (([] : List S46), 2, line, col)))) = some r := by
  have hlt : ((l.take e).drop p).length ≤ 1000000 := by rw [List.length_drop, List.length_take]; omega
  obtain ⟨K1, hK1⟩ := value_ev ((l.take e).drop p) hd hlt ((l.take e).drop p).length 0 0 (by omega) (by omega) (by omega)
  rw [List.drop_zero] at hK1
  cases hv : valGo 0 ((l.take e).drop p) with
  | none =>
   rw [hv] at hr hK1
   refine ⟨K1, fun k hk => ?_⟩
   have := hK1 k hk
   unfold pendulumref04_Value.f
   simp only [Int.natCast_zero] at this
   rw [this]
   simp only [Option.bind_some]
   rw [if_neg (by decide), hr]
  | some v =>
   rw [hv] at hr hK1
   obtain ⟨K2, hK2⟩ := hr
   refine ⟨max K1 K2, fun k hk => ?_⟩
   have := hK1 k (by omega)
   unfold pendulumref04_Value.f
   simp only [Int.natCast_zero] at this
   rw [this]
   simp only [Option.bind_some]
   rw [if_pos trivial, if_pos (by omega)]
   exact hK2 k (by omega)
 clear hr
 induction n with
 | zero =>
  intro j hj hpj hje
  have hj' : j = e := span_end dgB l j e (by omega) hje
  subst hj'
  refine ⟨K + 1, fun k hk => ?_⟩
  obtain ⟨k, rfl⟩ : ∃ m, k = m + 1 := ⟨k - 1, by omega⟩
  simp only [pendulumref04_Tokens.l2]
  rw [if_neg (by omega), if_pos (by omega), if_pos (by omega), if_pos (by omega)]
  exact hK k (by omega)
 | succ n ih =>
  intro j hj hpj hje
  have hlt : j < l.length := by omega
  by_cases hw : dgB (rd l j) = true
  ·obtain ⟨K2, hK2⟩ := ih (j + 1) (by omega) (by omega) (span_step dgB l j e hlt hw hje)
   refine ⟨K2 + 4, fun k hk => ?_⟩
   obtain ⟨k, rfl⟩ : ∃ m, k = m + 1 := ⟨k - 1, by omega⟩
   simp only [pendulumref04_Tokens.l2]
   rw [if_pos (by omega), if_pos (by omega), kind_at _ k (by omega)]
   simp only [Option.bind_some]
   rw [if_pos ((kindOf_digit _).2 hw), wrap_ok (by omega) (by omega)]
   exact hK2 k (by omega)
  ·have hj' : j = e := span_stop dgB l j e hlt (Bool.eq_false_iff.mpr hw) hje
   subst hj'
   refine ⟨K + 4, fun k hk => ?_⟩
   obtain ⟨k, rfl⟩ : ∃ m, k = m + 1 := ⟨k - 1, by omega⟩
   simp only [pendulumref04_Tokens.l2]
   rw [if_pos (by omega), if_pos (by omega), kind_at _ k (by omega)]
   simp only [Option.bind_some]
   rw [if_neg (fun h => hw ((kindOf_digit _).1 h)), if_pos (by omega), if_pos (by omega), if_pos (by omega)]
   exact hK k (by omega)
theorem l0_ev (l : List Int) (hl : l.length ≤ 1000000) (hok : okBytes l = true) (f : Nat) : ∀ (p : Nat) (xs : List S46) (line b : Int), l.length < p + f → p ≤ l.length → xs.length ≤ p → 1 ≤ line → line ≤ p + 1 → 0 ≤ b → b ≤ p →
  Ev (fun k => pendulumref04_Tokens.l0 k l xs line b p) (toks f (l.drop p) line (p - b + 1) xs) := by
 induction f with
 | zero => intro p xs line b h1 h2; omega
 | succ f ih =>
  intro p xs line b hf hpl hxl hli0 hli1 hb0 hb1
  by_cases hlt : p < l.length
  ·have hd := drop_rd l p hlt
   have hne : l.drop p ≠ [] := by rw [hd]; simp
   have hcol : wrap64 (wrap64 ((p : Int) - b) + 1) = p - b + 1 := by rw [wrap_ok (x := (p : Int) - b) (by omega) (by omega), wrap_ok (by omega) (by omega)]
   have hp1 : wrap64 ((p : Int) + 1) = ((p + 1 : Nat) : Int) := by rw [wrap_ok (by omega) (by omega)]; rfl
   -- one round of the reference, by what the byte is
   have one : ∀ {K : Nat} {v r : _} (F : Nat → Option (List S46 × Int × Int × Int)), kindOf (rd l p) = v → (∀ k, K ≤ k → F k = some r) → (∀ k, 3 ≤ k → pendulumref04_Tokens.l0 (k + 1) l xs line b p = F k) → Ev (fun k => pendulumref04_Tokens.l0 k l xs line b p) r := by
    intro K v r F _ hF h
    refine ⟨max K 3 + 1, fun k hk => ?_⟩
    obtain ⟨k, rfl⟩ : ∃ m, k = m + 1 := ⟨k - 1, by omega⟩
    exact (h k (by omega)).trans (hF k (by omega))
   rcases piece_ways (rd l p) (l.drop (p + 1)) with h | ⟨h1, h2, ⟨n, h⟩ | h⟩ | h | h | h | h | ⟨h1, h2, h3, h4, h5, h6⟩
   ·-- a word
    have hpc := piece_word (s := l.drop (p + 1)) h
    rw [← hd] at hpc
    rw [toks_go hne (by rw [hpc]), hpc]
    simp only [tokL, List.drop_drop]
    rw [if_neg Bool.false_ne_true, if_neg Bool.false_ne_true]
    obtain ⟨e, he⟩ : ∃ e, p + ((l.drop p).takeWhile wdB).length = e := ⟨_, rfl⟩
    have hte := takeWhile_le wdB (l.drop p)
    rw [List.length_drop] at hte
    have hpos : 1 ≤ ((l.drop p).takeWhile wdB).length := by rw [hd]; exact takeWhile_pos _ _ _ (sm_wd h)
    have hts := take_span wdB l p
    rw [he] at hts
    have hih := ih e (xs ++ [⟨1, strOfNums ((l.drop p).takeWhile wdB), 0, line, (p : Int) - b + 1⟩]) line b (by omega) (by omega) (by simp; omega) hli0 (by omega) hb0 (by omega)
    have h1 := l1_ev l xs line b (p - b + 1) p _ hl (by omega) e (by omega) (by omega) (by rw [hts]; exact hih) (l.length - (p + 1)) (p + 1) (by omega) (by omega) (span_step wdB l p e hlt (sm_wd h) he)
    rw [he, show (p : Int) - b + 1 + (((l.drop p).takeWhile wdB).length : Int) = (e : Int) - b + 1 from by omega]
    obtain ⟨K, hK⟩ := h1
    refine one _ rfl hK (fun k hk => ?_)
    simp only [pendulumref04_Tokens.l0]
    rw [if_pos (by omega), if_pos (by omega), kind_at _ k hk]
    simp only [Option.bind_some]
    rw [if_pos (kindOf_sm h), hcol, hp1]
   ·-- a number
    have hpc := piece_number (s := l.drop (p + 1)) h1 h2 h
    rw [← hd] at hpc h
    rw [toks_go hne (by rw [hpc]), hpc]
    simp only [tokL, List.drop_drop]
    rw [if_neg Bool.false_ne_true, if_neg Bool.false_ne_true]
    obtain ⟨e, he⟩ : ∃ e, p + ((l.drop p).takeWhile dgB).length = e := ⟨_, rfl⟩
    have hte := takeWhile_le dgB (l.drop p)
    rw [List.length_drop] at hte
    have hpos : 1 ≤ ((l.drop p).takeWhile dgB).length := by rw [hd]; exact takeWhile_pos _ _ _ h2
    have hts := take_span dgB l p
    rw [he] at hts
    have hih := ih e (xs ++ [⟨2, strOfNums ((l.drop p).takeWhile dgB), n, line, (p : Int) - b + 1⟩]) line b (by omega) (by omega) (by simp; omega) hli0 (by omega) hb0 (by omega)
    have hl2 := l2_ev l xs line b (p - b + 1) p _ hl (by omega) e (by omega) (by omega) (by rw [hts]; exact take_digits_ok hok p) (by rw [hts, h]; exact hih) (l.length - (p + 1)) (p + 1) (by omega) (by omega) (span_step dgB l p e hlt h2 he)
    rw [he, show (p : Int) - b + 1 + (((l.drop p).takeWhile dgB).length : Int) = (e : Int) - b + 1 from by omega]
    obtain ⟨K, hK⟩ := hl2
    refine one _ rfl hK (fun k hk => ?_)
    simp only [pendulumref04_Tokens.l0]
    rw [if_pos (by omega), if_pos (by omega), kind_at _ k hk]
    simp only [Option.bind_some]
    rw [kindOf_dg h1 h2, if_neg (by decide), if_pos rfl, hcol, hp1]
   ·-- a number that is over
    have hpc := piece_over (s := l.drop (p + 1)) h1 h2 h
    rw [← hd] at hpc h
    rw [toks_err hne (by rw [hpc]; decide), hpc]
    obtain ⟨e, he⟩ : ∃ e, p + ((l.drop p).takeWhile dgB).length = e := ⟨_, rfl⟩
    have hte := takeWhile_le dgB (l.drop p)
    rw [List.length_drop] at hte
    have hpos : 1 ≤ ((l.drop p).takeWhile dgB).length := by rw [hd]; exact takeWhile_pos _ _ _ h2
    have hts := take_span dgB l p
    rw [he] at hts
    have hl2 := l2_ev l xs line b (p - b + 1) p ([], 2, line, (p : Int) - b + 1) hl (by omega) e (by omega) (by omega) (by rw [hts]; exact take_digits_ok hok p) (by rw [hts, h]) (l.length - (p + 1)) (p + 1) (by omega) (by omega) (span_step dgB l p e hlt h2 he)
    obtain ⟨K, hK⟩ := hl2
    refine one _ rfl hK (fun k hk => ?_)
    simp only [pendulumref04_Tokens.l0]
    rw [if_pos (by omega), if_pos (by omega), kind_at _ k hk]
    simp only [Option.bind_some]
    rw [kindOf_dg h1 h2, if_neg (by decide), if_pos rfl, hcol, hp1]
   ·-- a line's end
    have hpc : piece (l.drop p) = (0, 1, some (3, (⟨#[]⟩ : ByteArray), 0), true) := by rw [hd, h]; exact piece_line _
    rw [toks_go hne (by rw [hpc]), hpc]
    simp only [tokL, List.drop_drop]
    rw [if_pos trivial, if_pos trivial]
    have hih := ih (p + 1) (xs ++ [⟨3, (⟨#[]⟩ : ByteArray), 0, line, (p : Int) - b + 1⟩]) (line + 1) (p + 1 : Nat) (by omega) (by omega) (by simp; omega) (by omega) (by omega) (by omega) (by omega)
    rw [show ((p + 1 : Nat) : Int) - ((p + 1 : Nat) : Int) + 1 = 1 from by omega] at hih
    obtain ⟨K, hK⟩ := hih
    refine one _ rfl hK (fun k hk => ?_)
    simp only [pendulumref04_Tokens.l0]
    rw [if_pos (by omega), if_pos (by omega), kind_at _ k hk]
    simp only [Option.bind_some]
    rw [(kindOf_line _).2 h, if_neg (by decide), if_neg (by decide), if_pos rfl, if_pos (by omega), hcol, hp1, wrap_ok (x := line + 1) (by omega) (by omega)]
   ·have hpc : piece (l.drop p) = (0, 1, none, false) := by rw [hd, h]; exact piece_space _
    rw [toks_go hne (by rw [hpc]), hpc]
    simp only [tokL, List.drop_drop, List.append_nil]
    rw [if_neg Bool.false_ne_true, if_neg Bool.false_ne_true]
    have hih := ih (p + 1) xs line b (by omega) (by omega) (by omega) (by omega) (by omega) (by omega) (by omega)
    rw [show (p : Int) - b + 1 + ((1 : Nat) : Int) = ((p + 1 : Nat) : Int) - b + 1 from by omega]
    obtain ⟨K, hK⟩ := hih
    refine one _ rfl hK (fun k hk => ?_)
    simp only [pendulumref04_Tokens.l0]
    rw [if_pos (by omega), if_pos (by omega), kind_at _ k hk]
    simp only [Option.bind_some]
    rw [show kindOf (rd l p) = 4 from by rw [h]; rfl, if_neg (by decide), if_neg (by decide), if_neg (by decide), if_neg (by decide), if_pos rfl, hp1]
   ·have hpc : piece (l.drop p) = (0, 1, none, false) := by rw [hd, h]; exact piece_tab _
    rw [toks_go hne (by rw [hpc]), hpc]
    simp only [tokL, List.drop_drop, List.append_nil]
    rw [if_neg Bool.false_ne_true, if_neg Bool.false_ne_true]
    have hih := ih (p + 1) xs line b (by omega) (by omega) (by omega) (by omega) (by omega) (by omega) (by omega)
    rw [show (p : Int) - b + 1 + ((1 : Nat) : Int) = ((p + 1 : Nat) : Int) - b + 1 from by omega]
    obtain ⟨K, hK⟩ := hih
    refine one _ rfl hK (fun k hk => ?_)
    simp only [pendulumref04_Tokens.l0]
    rw [if_pos (by omega), if_pos (by omega), kind_at _ k hk]
    simp only [Option.bind_some]
    rw [show kindOf (rd l p) = 4 from by rw [h]; rfl, if_neg (by decide), if_neg (by decide), if_neg (by decide), if_neg (by decide), if_pos rfl, hp1]
   ·-- a remark
    have hpc : piece (l.drop p) = (0, ((l.drop p).takeWhile rkB).length, none, false) := by rw [hd, h]; exact piece_remark _
    rw [toks_go hne (by rw [hpc]), hpc]
    simp only [tokL, List.drop_drop, List.append_nil]
    rw [if_neg Bool.false_ne_true, if_neg Bool.false_ne_true]
    obtain ⟨e, he⟩ : ∃ e, p + ((l.drop p).takeWhile rkB).length = e := ⟨_, rfl⟩
    have hte := takeWhile_le rkB (l.drop p)
    rw [List.length_drop] at hte
    have hrk : rkB (rd l p) = true := by rw [h]; rfl
    have hpos : 1 ≤ ((l.drop p).takeWhile rkB).length := by rw [hd]; exact takeWhile_pos _ _ _ hrk
    have hih := ih e xs line b (by omega) (by omega) (by omega) hli0 (by omega) hb0 (by omega)
    have h3 := l3_ev l xs line b _ hl e hih (l.length - (p + 1)) (p + 1) (by omega) (span_step rkB l p e hlt hrk he)
    rw [he, show (p : Int) - b + 1 + (((l.drop p).takeWhile rkB).length : Int) = (e : Int) - b + 1 from by omega]
    obtain ⟨K, hK⟩ := h3
    refine one _ rfl hK (fun k hk => ?_)
    simp only [pendulumref04_Tokens.l0]
    rw [if_pos (by omega), if_pos (by omega), kind_at _ k hk]
    simp only [Option.bind_some]
    rw [show kindOf (rd l p) = 6 from by rw [h]; rfl, if_neg (by decide), if_neg (by decide), if_neg (by decide), if_pos rfl, hp1]
   ·-- what may not be
    have hpc := piece_bad (s := l.drop (p + 1)) h1 h2 h3 h4 h5 h6
    rw [← hd] at hpc
    rw [toks_err hne (by rw [hpc]; decide), hpc]
    refine one (K := 0) (fun _ => some ([], 5, line, (p : Int) - b + 1)) rfl (fun _ _ => rfl) (fun k hk => ?_)
    simp only [pendulumref04_Tokens.l0]
    rw [if_pos (by omega), if_pos (by omega), kind_at _ k hk]
    simp only [Option.bind_some]
    have := kindOf_bad h1 h2 h3 h4 h5 h6
    rw [if_neg (by omega), if_neg (by omega), if_neg (by omega), if_neg (by omega), if_neg (by omega), hcol]
  ·have e : p = l.length := by omega
   rw [List.drop_eq_nil_of_le (by omega), toks_end]
   refine ⟨1, fun k hk => ?_⟩
   obtain ⟨k, rfl⟩ : ∃ m, k = m + 1 := ⟨k - 1, by omega⟩
   simp only [pendulumref04_Tokens.l0]
   rw [if_neg (by omega), if_pos (by omega), wrap_ok (x := (l.length : Int) - b) (by omega) (by omega), wrap_ok (by omega) (by omega), e]
theorem ref_tokens (l : List Int) (hl : l.length ≤ 1000000) (hok : okBytes l = true) : Ev (fun k => pendulumref04_Tokens.f k l) (lexToks l) := by
 have h := l0_ev l hl hok (l.length + 1) 0 [] 1 0 (by omega) (by omega) (by simp) (by omega) (by omega) (by omega) (by omega)
 rw [List.drop_zero] at h
 exact h
end Go.Proofs.YtddbkcfdfgehkaaDoor.Q
