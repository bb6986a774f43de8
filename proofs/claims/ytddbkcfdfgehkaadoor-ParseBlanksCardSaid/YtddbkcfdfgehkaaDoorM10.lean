-- Texts of this claim, put together: Hlex, LlexP, LlexJ, LlexK.
import Derived.Test.YtddbkcfdfgehkaaDoorM0
import Derived.Test.YtddbkcfdfgehkaaDoorHlexA
import Derived.Test.YtddbkcfdfgehkaaDoorHlexC
import Derived.OpenShut
-- The tokens of a text, as lex.Tokens tells them: proved by hand, in the printer's form.
namespace Go.Proofs.YtddbkcfdfgehkaaDoor.Q
open Go.RowKit Go.Proofs.YtddbkcfdfgehkaaDoorW.PrintWords Go.Proofs.YtddbkcfdfgehkaaDoorW.PrintLast Go.Proofs.YtddbkcfdfgehkaaDoorW.PrintMore
attribute [local go_sem] max2_int min2_int max_two min_two max_three min_three max_four min_four   -- for this text's walks alone
set_option linter.unusedVariables false
set_option linter.unusedSimpArgs false

def lex_Tokens.f (l0 : List Int) : Option ((List (S46)) × Int × Int × Int) := if okBytes l0 = true ∧ l0.length ≤ 1000000 then some (lexToks l0) else none
theorem lex_ends {w w0 w' : World} {v : Value} {ok : Nat → Prop} {xs : List S46} (hsz : w0.heap.size = w.heap.size + 1) (hbe : Below w.heap.size w w0) (hb : Below w0.heap.size w0 w') (hR : Kd.R k46 46 w' w0.heap.size ok v xs) (x y z : Value) :
    Kd.R k46 46 (((w'.setCell ⟨w.heap.size, 0, none⟩ x).setCell ⟨w.heap.size, 1, none⟩ y).setCell ⟨w.heap.size, 2, none⟩ z) w.heap.size (fun _ => True) v xs ∧ Below w.heap.size w (((w'.setCell ⟨w.heap.size, 0, none⟩ x).setCell ⟨w.heap.size, 1, none⟩ y).setCell ⟨w.heap.size, 2, none⟩ z) := by
  have hn : ∀ k : Nat, (ok k ∧ w0.heap.size ≤ k ∧ k < w'.heap.size ∧ ∃ q, q ∈ 46 :: k46.E ∧ ∃ cells, w'.heap[k]? = some (.cells cells q (0, 0))) → k ≠ w.heap.size := fun k hk => by omega
  refine ⟨Kd.R_lower (Kd.R_mono (Kd.R_far (Kd.R_far (Kd.R_far (Kd.R_bound hR) hn x) hn y) hn z) (fun _ _ => trivial)) (by omega), ?_⟩
  exact (((hbe.trans (hb.mono (by omega))).setCell (Nat.le_refl _) x).setCell (Nat.le_refl _) y).setCell (Nat.le_refl _) z
theorem lex_spot {b : Nat} {W : World} {t : TypeId} {x0 y0 z0 : Value} (h : W.heap[b]? = some (.cells #[x0, y0, z0] t (0, 0))) (x y z : Value) : (((W.setCell ⟨b, 0, none⟩ x).setCell ⟨b, 1, none⟩ y).setCell ⟨b, 2, none⟩ z).heap[b]? = some (.cells #[x, y, z] t (0, 0)) :=
  blk_put (blk_put (blk_put h 0 x rfl) 1 y rfl) 2 z rfl
set_option maxHeartbeats 1000000 in
set_option maxRecDepth 100000 in
theorem lex_Tokens.calls (A0 : Option Addr) (c0 : Nat) (l0 : List Int) (r1 : List (S46)) (r2 : Int) (r3 : Int) (r4 : Int) (w : World) (hr0 : Kd.C (Kd.int .u8) w A0 l0.length l0) (hc0 : l0.length ≤ c0) (h : lex_Tokens.f l0 = some (r1, r2, r3, r4)) :
    Calls Tryd.prog 16 #[.slice A0 l0.length c0] w fun e w' => ∃ v0_ : Value, e = .returned (.tuple #[v0_, .agg #[.int .i64 r2, .int .i64 r3, .int .i64 r4]]) ∧ Kd.R k46 46 w' w.heap.size (fun _ => True) v0_ r1 ∧ Below w.heap.size w w' := by
  unfold lex_Tokens.f at h
  split at h
  case isFalse => exact absurd h (by simp)
  case isTrue hcond =>
  obtain ⟨hok, hlen⟩ := hcond
  have H := Aside0.mk (Option.some.inj h)
  have HOK := Aside0.mk hok
  have HR0 := Aside0.mk hr0
  clear h hok hr0
  go_enter Tryd.func16, Tryd.ntmps16
  go_wp2
  obtain ⟨w0, hw0⟩ : ∃ w0, w0 = w.alloc (.cells #[.int .i64 0, .int .i64 0, .int .i64 0] 29) := ⟨_, rfl⟩
  have hsz : w0.heap.size = w.heap.size + 1 := by rw [hw0]; simp
  have hbl : w0.heap[w.heap.size]? = some (.cells #[.int .i64 0, .int .i64 0, .int .i64 0] 29 (0, 0)) := by rw [hw0]; exact blk_new _ _
  have hbe : Below w.heap.size w w0 := by rw [hw0]; exact below_alloc (Below.refl _ _) _
  have HI : Aside0 (Rdr w0 (w0.alloc (.cells #[.slice A0 l0.length c0, .int .i64 0, .int .i64 1, .int .i64 1, .slice none 0 0] 62)) (w.heap.size + 1) A0 l0.length c0 0 1 1 (.slice none 0 0) []) := ⟨⟨by rw [← hsz]; exact blk_new _ _, Kd.R_nil _ _ _ _ _, below_alloc (Below.refl _ _) _, by omega⟩⟩
  rw [← hw0]
  have HR1 := Aside0.mk (Kd.C_below HR0.out hbe)
  have HBE := Aside0.mk hbe
  have HBL := Aside0.mk hbl
  have HSZ := Aside0.mk hsz
  clear hw0 HR0 hbl hbe hsz
  go_loopg [] (l0.length + 1) (fun kq wr => ∃ (p : Nat) (line col : Int) (v : Value) (xs : List S46), p ≤ l0.length ∧ 0 ≤ line ∧ line ≤ p + 1 ∧ 0 ≤ col ∧ col ≤ p + 1 ∧ xs.length ≤ p ∧ Aside0 (toks kq (l0.drop p) line col xs = (r1, r2, r3, r4)) ∧ Aside0 (l0.length < p + kq) ∧ Aside0 (Rdr w0 wr (w.heap.size + 1) A0 l0.length c0 p line col v xs))
  case atStart => exact ⟨0, 1, 1, _, [], Nat.zero_le _, by omega, by omega, by omega, by omega, by simp, H, ⟨by omega⟩, HI⟩
  case round =>
    clear HI H
    obtain ⟨p, line, col, v, xs, hpl, hli0, hli1, hco0, hco1, hxl, HT, HK, HR⟩ := hrel
    obtain ⟨h0, h1, h2, h3, h4, f1, f2, f3, f4⟩ := HR.out.cells
    by_cases hlt : p < l0.length
    · cases gk with
      | zero => exact absurd HK.out (by omega)
      | succ k1 =>
      have HT2 := HT.out
      clear HT
      simp only [toks] at HT2
      rw [if_neg (by intro e; have := congrArg List.length e; simp at this; omega)] at HT2
      have hd0 : decide ((p : Int) < (l0.length : Int)) = true := by simp; omega
      have hp1 := piece_le (l0.drop p)
      rw [List.length_drop] at hp1
      have hp2 : (piece (l0.drop p)).1 = 0 → 1 ≤ (piece (l0.drop p)).2.1 := piece_pos (by intro e; have := congrArg List.length e; simp at this; omega)
      have HP1 := Aside0.mk hp1
      have HP2 := Aside0.mk hp2
      clear hp1 hp2
      by_cases he : (piece (l0.drop p)).1 = 0
      · rw [if_neg (by simpa using he)] at HT2
        have HT3 := Aside0.mk HT2
        clear HT2
        have HE := Aside0.mk he
        clear he
        go_wp2_with fail
        go_quiet (fail)
        go_wp2_with (go_at_call 29; refine (next_any w0 _ (w.heap.size + 1) A0 c0 l0 p line col v xs (by omega) hlt HOK.out hli0 (by omega) hco0 (by omega) (by omega) HR1.out hc0 (HR.out.drewN _)).mono ?_; rintro e w' ⟨rfl, HB0, HN⟩; rw [HE.out]; have HNN := Aside0.mk (HN HE.out); clear HN HB0 h0 h1 h2 h3 h4 f1 f2 f3 f4)
        obtain ⟨v', hR⟩ := HNN.out
        go_roundg k1
        case measure => omega
        case rel =>
          refine ⟨p + (piece (l0.drop p)).2.1, _, _, v', _, by have := HP1.out; omega, ?_, ?_, ?_, ?_, ?_, ⟨?_⟩, ⟨?_⟩, ⟨hR⟩⟩
          · split <;> omega
          · have := HP2.out HE.out; split <;> omega
          · split <;> omega
          · have := HP2.out HE.out; split <;> omega
          · have h1 : (tokL (piece (l0.drop p)).2.2.1 line col).length ≤ 1 := by unfold tokL; split <;> simp
            have := HP2.out HE.out
            rw [List.length_append]; omega
          · have := HT3.out
            rw [List.drop_drop] at this
            exact this
          · have := HP2.out HE.out; have := HK.out; omega
      · rw [if_pos he] at HT2
        simp only [Prod.mk.injEq] at HT2
        obtain ⟨rfl, hr2, rfl, rfl⟩ := HT2
        have HE := Aside0.mk hr2
        have hne : (r2 == 0) = false := beq_eq_false_iff_ne.mpr (by rw [← hr2]; exact he)
        have hne2 : (r2 != 0) = true := bne_iff_ne.mpr (by rw [← hr2]; exact he)
        clear hr2 he
        go_wp2_with fail
        go_quiet (fail)
        go_wp2_with (go_at_call 29; refine (next_any w0 _ (w.heap.size + 1) A0 c0 l0 p line col v xs (by omega) hlt HOK.out hli0 (by omega) hco0 (by omega) (by omega) HR1.out hc0 (HR.out.drewN _)).mono ?_; rintro e w' ⟨rfl, HB0, HN⟩; rw [HE.out]; have hbk := (HB0.block w.heap.size (by have := HSZ.out; omega)).trans HBL.out; have c0_ := blk_cell hbk 0; have c1_ := blk_cell hbk 1; have c2_ := blk_cell hbk 2; have g0_ := blk_frozen hbk 0; have g1_ := blk_frozen hbk 1; have g2_ := blk_frozen hbk 2; have HBK := Aside0.mk hbk; have HBB := Aside0.mk HB0; clear HN HB0 hbk h0 h1 h2 h3 h4 f1 f2 f3 f4)
        refine bodyPost_ret (results_tc rfl _ _ w.heap.size 29 #[.int .i64 r2, .int .i64 line, .int .i64 col] (0, 0) _ rfl (lex_spot HBK.out _ _ _) Tryd.underlying29 rfl (by kernel_rfl)) rfl ?_
        have hz := lex_ends (v := .slice none 0 0) (ok := fun _ => True) (xs := []) HSZ.out HBE.out HBB.out (Kd.R_nil _ _ _ _ _) (.int .i64 r2) (.int .i64 line) (.int .i64 col)
        exact ⟨_, rfl, hz.1, hz.2⟩
    · have hd0 : decide ((p : Int) < (l0.length : Int)) = false := by simp; omega
      obtain ⟨k1, hk1⟩ : ∃ k1, gk = k1 + 1 := ⟨gk - 1, by have := HK.out; omega⟩
      subst hk1
      have HT2 := HT.out
      clear HT
      simp only [toks] at HT2
      rw [if_pos (List.drop_eq_nil_of_le (by omega))] at HT2
      simp only [Prod.mk.injEq] at HT2
      obtain ⟨hr1, rfl, rfl, rfl⟩ := HT2
      have HX := Aside0.mk hr1
      clear hr1
      go_wp2_with (go_at_call 30; refine (add_any w0 _ (w.heap.size + 1) A0 _ c0 p line col v xs 4 0 col ⟨#[]⟩ (by omega) HR.out).mono ?_; rintro e w' ⟨rfl, v', HR2⟩; have hbk := (HR2.2.2.1.block w.heap.size (by have := HSZ.out; omega)).trans HBL.out; have c0_ := blk_cell hbk 0; have c1_ := blk_cell hbk 1; have c2_ := blk_cell hbk 2; have g0_ := blk_frozen hbk 0; have g1_ := blk_frozen hbk 1; have g2_ := blk_frozen hbk 2; have HBK := Aside0.mk hbk; have HRr := Aside0.mk HR2; clear HR2 hbk h0 h1 h2 h3 h4 f1 f2 f3 f4; obtain ⟨h0, h1, h2, h3, h4, f1, f2, f3, f4⟩ := HRr.out.cells)
      refine bodyPost_ret (results_tc rfl _ _ w.heap.size 29 #[.int .i64 0, .int .i64 0, .int .i64 0] (0, 0) _ rfl (lex_spot HBK.out _ _ _) Tryd.underlying29 rfl (by kernel_rfl)) rfl ?_
      have hz := lex_ends HSZ.out HBE.out HRr.out.2.2.1 HRr.out.2.1 (.int .i64 0) (.int .i64 0) (.int .i64 0)
      rw [HX.out] at hz
      exact ⟨_, rfl, hz.1, hz.2⟩
end Go.Proofs.YtddbkcfdfgehkaaDoor.Q

-- How the plain function of chapter 4 goes on, and what a text's bytes are.
namespace Go.Proofs.YtddbkcfdfgehkaaDoor.Q
open Go.RowKit Go.Proofs.YtddbkcfdfgehkaaDoorW.PrintWords Go.Proofs.YtddbkcfdfgehkaaDoorW.PrintLast Go.Proofs.YtddbkcfdfgehkaaDoorW.PrintMore
attribute [local go_sem] max2_int min2_int max_two min_two max_three min_three max_four min_four   -- for this text's walks alone
set_option linter.unusedVariables false
set_option linter.unusedSimpArgs false

theorem toks_end (f : Nat) (line col : Int) (xs : List S46) : toks (f + 1) [] line col xs = (xs ++ [⟨4, (⟨#[]⟩ : ByteArray), 0, line, col⟩], 0, 0, 0) := by simp only [toks]; rw [if_pos trivial]
theorem toks_err {f : Nat} {s : List Int} {line col : Int} {xs : List S46} (hs : s ≠ []) (he : (piece s).1 ≠ 0) : toks (f + 1) s line col xs = ([], (piece s).1, line, col) := by simp only [toks]; rw [if_neg hs, if_pos he]
theorem toks_go {f : Nat} {s : List Int} {line col : Int} {xs : List S46} (hs : s ≠ []) (he : (piece s).1 = 0) : toks (f + 1) s line col xs = toks f (s.drop (piece s).2.1) (if (piece s).2.2.2 = true then line + 1 else line) (if (piece s).2.2.2 = true then 1 else col + (piece s).2.1) (xs ++ tokL (piece s).2.2.1 line col) := by simp only [toks]; rw [if_neg hs, if_neg (by rw [he]; exact fun h => h rfl)]
theorem ok_of_wf {l : List Int} (h : ∀ x ∈ l, (Lit.int .u8 x).wf = true) : okBytes l = true := by
  refine List.all_eq_true.2 fun x hx => ?_
  have := Go.bounds_u8 (h x hx)
  simp
  omega
theorem lex_some {l : List Int} (hl : l.length ≤ 1000000) (hok : okBytes l = true) : lex_Tokens.f l = some (lexToks l) := by
  unfold lex_Tokens.f; rw [if_pos ⟨hok, hl⟩]
theorem toks_len (f : Nat) : ∀ (s : List Int) (line col : Int) (xs : List S46), (toks f s line col xs).1.length ≤ xs.length + s.length + 1 := by
  induction f with
  | zero => intros; simp [toks]
  | succ f ih =>
    intro s line col xs
    by_cases hs : s = []
    · subst hs; rw [toks_end]; simp
    · by_cases he : (piece s).1 = 0
      · rw [toks_go hs he]
        refine Nat.le_trans (ih _ _ _ _) ?_
        have h1 := piece_pos hs he
        have h2 := piece_le s
        have h3 : (tokL (piece s).2.2.1 line col).length ≤ 1 := by unfold tokL; split <;> simp
        rw [List.length_append, List.length_drop]; omega
      · rw [toks_err hs he]; simp
theorem wrap_ok {x : Int} (h0 : -1000000000000000000 ≤ x) (h1 : x ≤ 1000000000000000000) : wrap64 x = x := by unfold wrap64; omega
end Go.Proofs.YtddbkcfdfgehkaaDoor.Q

-- Texts put together, as the plain function of chapter 4 reads them.
namespace Go.Proofs.YtddbkcfdfgehkaaDoor.Q
open Go.RowKit Go.Proofs.YtddbkcfdfgehkaaDoorW.PrintWords Go.Proofs.YtddbkcfdfgehkaaDoorW.PrintLast Go.Proofs.YtddbkcfdfgehkaaDoorW.PrintMore
attribute [local go_sem] max2_int min2_int max_two min_two max_three min_three max_four min_four   -- for this text's walks alone
set_option linter.unusedVariables false
set_option linter.unusedSimpArgs false

theorem tw_stop {P : Int → Bool} {h : Int} (hh : P h = false) (s t : List Int) : (s ++ h :: t).takeWhile P = s.takeWhile P := by
  induction s with
  | nil => simp [hh]
  | cons c s ih =>
    rw [List.cons_append, List.takeWhile_cons, List.takeWhile_cons, ih]
theorem tw_all {P : Int → Bool} {r : List Int} (hr : ∀ x ∈ r, P x = true) (s : List Int) : (s ++ r).takeWhile P = if s.takeWhile P = s then s ++ r else s.takeWhile P := by
  induction s with
  | nil =>
    have : ∀ l : List Int, (∀ x ∈ l, P x = true) → l.takeWhile P = l := by
      intro l hl
      induction l with
      | nil => rfl
      | cons x l ih => rw [List.takeWhile_cons, if_pos (hl x List.mem_cons_self), ih fun y hy => hl y (List.mem_cons_of_mem _ hy)]
    simp [this r hr]
  | cons c s ih =>
    rw [List.cons_append, List.takeWhile_cons, List.takeWhile_cons, ih]
    by_cases h : P c = true
    · rw [if_pos h, if_pos h]
      by_cases h2 : s.takeWhile P = s
      · rw [if_pos h2, if_pos (by rw [h2])]
      · rw [if_neg h2, if_neg (by intro e; exact h2 (List.cons.inj e).2)]
    · rw [if_neg h, if_neg h, if_neg (by simp)]
/-- A piece ends where a line's end begins. -/
theorem piece_join {s : List Int} (hs : s ≠ []) (b : List Int) : piece (s ++ 10 :: b) = piece s := by
  cases s with
  | nil => exact absurd rfl hs
  | cons c s =>
    have e1 : (c :: (s ++ 10 :: b)).takeWhile wdB = (c :: s).takeWhile wdB := tw_stop (P := wdB) rfl (c :: s) b
    have e2 : (c :: (s ++ 10 :: b)).takeWhile dgB = (c :: s).takeWhile dgB := tw_stop (P := dgB) rfl (c :: s) b
    have e3 : (c :: (s ++ 10 :: b)).takeWhile rkB = (c :: s).takeWhile rkB := tw_stop (P := rkB) rfl (c :: s) b
    simp only [List.cons_append, piece, e1, e2, e3]
/-- A piece, a remark behind it. -/
theorem piece_rem {s : List Int} (hs : s ≠ []) {q : List Int} (hq : ∀ x ∈ q, x ≠ 10) :
    piece (s ++ 35 :: q) = piece s ∨ (piece s = (0, s.length, none, false) ∧ piece (s ++ 35 :: q) = (0, s.length + (q.length + 1), none, false)) := by
  cases s with
  | nil => exact absurd rfl hs
  | cons c s =>
    have e1 : (c :: (s ++ 35 :: q)).takeWhile wdB = (c :: s).takeWhile wdB := tw_stop (P := wdB) rfl (c :: s) q
    have e2 : (c :: (s ++ 35 :: q)).takeWhile dgB = (c :: s).takeWhile dgB := tw_stop (P := dgB) rfl (c :: s) q
    by_cases h35 : c = 35
    · subst h35
      have hall : ∀ x ∈ 35 :: q, rkB x = true := by
        intro x hx
        rcases List.mem_cons.1 hx with rfl | hx
        · rfl
        · have := hq x hx; unfold rkB; simpa using this
      have e3 := tw_all (P := rkB) hall (35 :: s)
      rw [List.cons_append, piece_remark, piece_remark]
      rw [List.cons_append] at e3
      rw [e3]
      by_cases h : (35 :: s).takeWhile rkB = 35 :: s
      · rw [if_pos h]
        refine .inr ⟨by rw [h], ?_⟩
        simp; omega
      · rw [if_neg h]
        exact .inl rfl
    · refine .inl ?_
      simp only [List.cons_append, piece, e1, e2]
      rw [if_neg (c := c = 35) h35, if_neg (c := c = 35) h35]
theorem toks_fuel (n : Nat) : ∀ (s : List Int), s.length ≤ n → ∀ (f g : Nat) (line col : Int) (xs : List S46), s.length < f → s.length < g → toks f s line col xs = toks g s line col xs := by
  induction n with
  | zero =>
    intro s hs f g line col xs hf hg
    obtain ⟨f, rfl⟩ : ∃ m, f = m + 1 := ⟨f - 1, by omega⟩
    obtain ⟨g, rfl⟩ : ∃ m, g = m + 1 := ⟨g - 1, by omega⟩
    have : s = [] := List.eq_nil_of_length_eq_zero (by omega)
    subst this
    rw [toks_end, toks_end]
  | succ n ih =>
    intro s hs f g line col xs hf hg
    obtain ⟨f, rfl⟩ : ∃ m, f = m + 1 := ⟨f - 1, by omega⟩
    obtain ⟨g, rfl⟩ : ∃ m, g = m + 1 := ⟨g - 1, by omega⟩
    by_cases h : s = []
    · subst h; rw [toks_end, toks_end]
    · by_cases he : (piece s).1 = 0
      · have h1 := piece_pos h he
        have h2 : 0 < s.length := List.length_pos_iff.mpr h
        rw [toks_go h he, toks_go h he]
        exact ih _ (by rw [List.length_drop]; omega) _ _ _ _ _ (by rw [List.length_drop]; omega) (by rw [List.length_drop]; omega)
      · rw [toks_err h he, toks_err h he]
def cnt (s : List Int) : Nat := s.countP (· == 10)
def lns (ts : List S46) : Nat := ts.countP (fun t => t.f0 == 3)
/-- What a text comes to: told for itself, a line's end and more behind it, a remark behind it. -/
inductive Way (s : List Int) (line col : Int) : Prop
  | err (e l c : Int) (he : e = 2 ∨ e = 5) (hl : line ≤ l) (hc : 1 ≤ c)
      (h0 : ∀ F xs, s.length < F → toks F s line col xs = ([], e, l, c))
      (h1 : ∀ F xs b, (s ++ 10 :: b).length < F → toks F (s ++ 10 :: b) line col xs = ([], e, l, c))
      (h2 : ∀ F xs q, (∀ x ∈ q, x ≠ 10) → (s ++ 35 :: q).length < F → toks F (s ++ 35 :: q) line col xs = ([], e, l, c)) : Way s line col
  | ok (ys : List S46) (C : Int)
      (hn : lns ys = cnt s) (hk : ∀ t ∈ ys, t.f0 = 1 ∨ t.f0 = 2 ∨ t.f0 = 3) (hy : ys.length ≤ s.length)
      (h0 : ∀ F xs, s.length < F → toks F s line col xs = (xs ++ ys ++ [⟨4, (⟨#[]⟩ : ByteArray), 0, line + cnt s, C⟩], 0, 0, 0))
      (h1 : ∀ F xs b, (s ++ 10 :: b).length < F → toks F (s ++ 10 :: b) line col xs = toks (b.length + 1) b (line + cnt s + 1) 1 (xs ++ ys ++ [⟨3, (⟨#[]⟩ : ByteArray), 0, line + cnt s, C⟩]))
      (h2 : ∀ F xs q, (∀ x ∈ q, x ≠ 10) → (s ++ 35 :: q).length < F → toks F (s ++ 35 :: q) line col xs = (xs ++ ys ++ [⟨4, (⟨#[]⟩ : ByteArray), 0, line + cnt s, C + (q.length + 1)⟩], 0, 0, 0)) : Way s line col
theorem cnt_drop {s : List Int} (k : Nat) (h : ∀ x ∈ s.take k, x ≠ 10) : cnt (s.drop k) = cnt s := by
  have e : cnt s = cnt (s.take k) + cnt (s.drop k) := by
    unfold cnt; rw [← List.countP_append, List.take_append_drop]
  have : cnt (s.take k) = 0 := by
    unfold cnt; rw [List.countP_eq_zero]; intro x hx; simpa using h x hx
  omega
theorem tw_mem {P : Int → Bool} {s : List Int} : ∀ x ∈ s.takeWhile P, P x = true := by
  intro x hx
  induction s with
  | nil => simp at hx
  | cons c s ih =>
    rw [List.takeWhile_cons] at hx
    split at hx
    · rename_i hc
      rcases List.mem_cons.1 hx with rfl | hx
      · exact hc
      · exact ih hx
    · simp at hx
theorem tw_take (P : Int → Bool) (s : List Int) : s.take (s.takeWhile P).length = s.takeWhile P := by
  have := take_span P s 0
  simpa using this
/-- Which bytes a piece has, and what it adds. -/
theorem piece_adds {s : List Int} (hs : s ≠ []) (he : (piece s).1 = 0) :
    ((piece s).2.2.2 = true ∧ (piece s).2.1 = 1 ∧ s.take 1 = [10] ∧ (piece s).2.2.1 = some (3, (⟨#[]⟩ : ByteArray), 0)) ∨
    ((piece s).2.2.2 = false ∧ (∀ x ∈ s.take (piece s).2.1, x ≠ 10) ∧ ((piece s).2.2.1 = none ∨ ∃ k x v, (k = 1 ∨ k = 2) ∧ (piece s).2.2.1 = some (k, x, v))) := by
  cases s with
  | nil => exact absurd rfl hs
  | cons c s =>
    rcases piece_ways c s with h | ⟨h1, h2, ⟨n, h⟩ | h⟩ | rfl | rfl | rfl | rfl | ⟨h1, h2, h3, h4, h5, h6⟩
    · rw [piece_word h]
      refine .inr ⟨rfl, ?_, .inr ⟨1, _, _, .inl rfl, rfl⟩⟩
      show ∀ x ∈ (c :: s).take ((c :: s).takeWhile wdB).length, x ≠ 10
      rw [tw_take]
      rintro x hx rfl
      exact absurd (tw_mem _ hx) (by decide)
    · rw [piece_number h1 h2 h]
      refine .inr ⟨rfl, ?_, .inr ⟨2, _, _, .inr rfl, rfl⟩⟩
      show ∀ x ∈ (c :: s).take ((c :: s).takeWhile dgB).length, x ≠ 10
      rw [tw_take]
      rintro x hx rfl
      exact absurd (tw_mem _ hx) (by decide)
    · rw [piece_over h1 h2 h] at he; exact absurd he (by decide)
    · exact .inl ⟨rfl, rfl, rfl, rfl⟩
    · rw [piece_space]; exact .inr ⟨rfl, by simp, .inl rfl⟩
    · rw [piece_tab]; exact .inr ⟨rfl, by simp, .inl rfl⟩
    · rw [piece_remark]
      refine .inr ⟨rfl, ?_, .inl rfl⟩
      show ∀ x ∈ (35 :: s).take ((35 :: s).takeWhile rkB).length, x ≠ 10
      rw [tw_take]
      rintro x hx rfl
      exact absurd (tw_mem _ hx) (by decide)
    · rw [piece_bad h1 h2 h3 h4 h5 h6] at he; exact absurd he (by decide)
theorem piece_errs {s : List Int} (he : (piece s).1 ≠ 0) : (piece s).1 = 2 ∨ (piece s).1 = 5 := by
  cases s with
  | nil => exact absurd rfl he
  | cons c s =>
    rcases piece_ways c s with h | ⟨h1, h2, ⟨n, h⟩ | h⟩ | rfl | rfl | rfl | rfl | ⟨h1, h2, h3, h4, h5, h6⟩
    · rw [piece_word h] at he; exact absurd rfl he
    · rw [piece_number h1 h2 h] at he; exact absurd rfl he
    · rw [piece_over h1 h2 h]; exact .inl rfl
    · exact absurd rfl he
    · exact absurd rfl he
    · exact absurd rfl he
    · exact absurd rfl he
    · rw [piece_bad h1 h2 h3 h4 h5 h6]; exact .inr rfl
theorem way (n : Nat) : ∀ (s : List Int), s.length ≤ n → ∀ line col : Int, 1 ≤ col → Way s line col := by
  induction n with
  | zero =>
    intro s hs line col hcol
    have : s = [] := List.eq_nil_of_length_eq_zero (by omega)
    subst this
    refine .ok [] col rfl (by simp) (Nat.le_refl _) (fun F xs hF => ?_) (fun F xs b hF => ?_) (fun F xs q hq hF => ?_)
    · obtain ⟨F, rfl⟩ : ∃ m, F = m + 1 := ⟨F - 1, by omega⟩
      rw [toks_end]; simp [cnt]
    · obtain ⟨F, rfl⟩ : ∃ m, F = m + 1 := ⟨F - 1, by omega⟩
      simp only [List.nil_append, List.length_cons] at hF ⊢
      rw [toks_go (by simp) (by rw [piece_line]), piece_line]
      simp only [tokL, List.drop_succ_cons, List.drop_zero]
      rw [if_pos trivial, if_pos trivial]
      rw [toks_fuel _ b (Nat.le_refl _) F (b.length + 1) _ _ _ (by omega) (by omega)]
      simp [cnt]
    · obtain ⟨F, rfl⟩ : ∃ m, F = m + 1 := ⟨F - 1, by omega⟩
      obtain ⟨F, rfl⟩ : ∃ m, F = m + 1 := ⟨F - 1, by simp at hF; omega⟩
      have hall : ∀ x ∈ 35 :: q, rkB x = true := by
        intro x hx
        rcases List.mem_cons.1 hx with rfl | hx
        · rfl
        · have := hq x hx; unfold rkB; simpa using this
      have e := tw_all (P := rkB) hall []
      simp only [List.nil_append, List.takeWhile_nil, if_true] at e
      simp only [List.nil_append]
      rw [toks_go (by simp) (by rw [piece_remark]), piece_remark, e]
      simp only [tokL, List.append_nil, List.drop_length]
      rw [if_neg Bool.false_ne_true, if_neg Bool.false_ne_true, toks_end]
      simp [cnt]
  | succ n ih =>
    intro s hs line col hcol
    by_cases h : s = []
    · subst h; exact ih [] (by simp) line col hcol
    · have hlen : 0 < s.length := List.length_pos_iff.mpr h
      have ha : ∀ b, s ++ b ≠ [] := fun b e => h (List.append_eq_nil_iff.1 e).1
      by_cases he : (piece s).1 = 0
      · have hk1 := piece_pos h he
        have hk2 := piece_le s
        have hcol' : 1 ≤ (if (piece s).2.2.2 = true then 1 else col + ((piece s).2.1 : Int)) := by split <;> omega
        have hcnt : (if (piece s).2.2.2 = true then line + 1 else line) + (cnt (s.drop (piece s).2.1) : Int) = line + cnt s := by
          rcases piece_adds h he with ⟨a1, a2, a3, a4⟩ | ⟨a1, a2, a3⟩
          · rw [if_pos a1, a2]
            have e : cnt s = cnt (s.take 1) + cnt (s.drop 1) := by unfold cnt; rw [← List.countP_append, List.take_append_drop]
            rw [a3] at e
            have : cnt [10] = 1 := rfl
            omega
          · rw [if_neg (by rw [a1]; exact Bool.false_ne_true), cnt_drop _ a2]
        have htok : (lns (tokL (piece s).2.2.1 line col) + cnt (s.drop (piece s).2.1) = cnt s) ∧ (∀ t ∈ tokL (piece s).2.2.1 line col, t.f0 = 1 ∨ t.f0 = 2 ∨ t.f0 = 3) ∧ (tokL (piece s).2.2.1 line col).length ≤ 1 := by
          rcases piece_adds h he with ⟨a1, a2, a3, a4⟩ | ⟨a1, a2, a3⟩
          · have e : cnt s = cnt (s.take 1) + cnt (s.drop 1) := by unfold cnt; rw [← List.countP_append, List.take_append_drop]
            rw [a3] at e
            rw [a4, a2]
            refine ⟨?_, ?_, ?_⟩
            · have : cnt [10] = 1 := rfl
              have : lns (tokL (some (3, (⟨#[]⟩ : ByteArray), 0)) line col) = 1 := rfl
              omega
            · intro t ht; simp [tokL] at ht; subst ht; exact .inr (.inr rfl)
            · simp [tokL]
          · rw [cnt_drop _ a2]
            rcases a3 with a3 | ⟨k, x, v, hk, a3⟩
            · rw [a3]; exact ⟨by simp [tokL, lns], by simp [tokL], by simp [tokL]⟩
            · rw [a3]
              refine ⟨?_, ?_, by simp [tokL]⟩
              · rcases hk with rfl | rfl <;> simp [tokL, lns]
              · intro t ht; simp [tokL] at ht; subst ht; rcases hk with rfl | rfl
                · exact .inl rfl
                · exact .inr (.inl rfl)
        have hd1 : ∀ b, (s ++ b).drop (piece s).2.1 = s.drop (piece s).2.1 ++ b := fun b => List.drop_append_of_le_length hk2
        have hw := ih (s.drop (piece s).2.1) (by rw [List.length_drop]; omega) (if (piece s).2.2.2 = true then line + 1 else line) (if (piece s).2.2.2 = true then 1 else col + (piece s).2.1) hcol'
        -- a remark's last piece may grow: its own way
        have hrem : ∀ (q : List Int), (∀ x ∈ q, x ≠ 10) → piece (s ++ 35 :: q) = piece s ∨ (piece s = (0, s.length, none, false) ∧ piece (s ++ 35 :: q) = (0, s.length + (q.length + 1), none, false)) := fun q hq => piece_rem h hq
        cases hw with
        | err e l c he' hl hc h0 h1 h2 =>
          refine .err e l c he' (by split at hl <;> omega) hc (fun F xs hF => ?_) (fun F xs b hF => ?_) (fun F xs q hq hF => ?_)
          · obtain ⟨F, rfl⟩ : ∃ m, F = m + 1 := ⟨F - 1, by omega⟩
            rw [toks_go h he]
            exact h0 F _ (by rw [List.length_drop]; omega)
          · obtain ⟨F, rfl⟩ : ∃ m, F = m + 1 := ⟨F - 1, by omega⟩
            have hp := piece_join h b
            rw [toks_go (ha _) (by rw [hp]; exact he), hp, hd1]
            exact h1 F _ b (by simp at hF ⊢; omega)
          · obtain ⟨F, rfl⟩ : ∃ m, F = m + 1 := ⟨F - 1, by omega⟩
            rcases hrem q hq with hp | ⟨hp, hp2⟩
            · rw [toks_go (ha _) (by rw [hp]; exact he), hp, hd1]
              exact h2 F _ q hq (by simp at hF ⊢; omega)
            · exfalso
              have := h0 1 [] (by rw [hp, List.drop_length]; simp)
              rw [hp, List.drop_length, toks_end] at this
              simp only [Prod.mk.injEq] at this
              rcases he' with rfl | rfl <;> omega
        | ok ys C hn hk hy h0 h1 h2 =>
          refine .ok (tokL (piece s).2.2.1 line col ++ ys) C ?_ ?_ ?_ (fun F xs hF => ?_) (fun F xs b hF => ?_) (fun F xs q hq hF => ?_)
          · unfold lns at hn ⊢
            rw [List.countP_append, hn]
            exact htok.1
          · intro t ht
            rcases List.mem_append.1 ht with ht | ht
            · exact htok.2.1 t ht
            · exact hk t ht
          · rw [List.length_drop] at hy
            rw [List.length_append]; have := htok.2.2; omega
          · obtain ⟨F, rfl⟩ : ∃ m, F = m + 1 := ⟨F - 1, by omega⟩
            rw [toks_go h he, h0 F _ (by rw [List.length_drop]; omega), hcnt]
            simp
          · obtain ⟨F, rfl⟩ : ∃ m, F = m + 1 := ⟨F - 1, by omega⟩
            have hp := piece_join h b
            rw [toks_go (ha _) (by rw [hp]; exact he), hp, hd1, h1 F _ b (by simp at hF ⊢; omega), hcnt]
            simp
          · obtain ⟨F, rfl⟩ : ∃ m, F = m + 1 := ⟨F - 1, by omega⟩
            rcases hrem q hq with hp | ⟨hp, hp2⟩
            · rw [toks_go (ha _) (by rw [hp]; exact he), hp, hd1, h2 F _ q hq (by simp at hF ⊢; omega), hcnt]
              simp
            · have h00 := h0 1 [] (by rw [hp, List.drop_length]; simp)
              rw [hp, List.drop_length, toks_end] at h00
              simp only [Prod.mk.injEq, and_true, List.nil_append] at h00
              have hys : ys = [] := by
                have := congrArg List.length h00
                simp at this
                exact this
              subst hys
              simp only [List.nil_append, List.cons.injEq, and_true] at h00
              have hC : C = col + (s.length : Int) := by
                injection h00 with _ _ _ _ hC
                rw [if_neg Bool.false_ne_true] at hC
                exact hC.symm
              obtain ⟨F, rfl⟩ : ∃ m, F = m + 1 := ⟨F - 1, by simp at hF; omega⟩
              rw [toks_go (ha _) (by rw [hp2]), hp2]
              have hdl : (s ++ 35 :: q).drop (s.length + (q.length + 1)) = [] := List.drop_eq_nil_of_le (by simp)
              rw [hdl, toks_end, if_neg Bool.false_ne_true, if_neg Bool.false_ne_true]
              have hcs : cnt s = 0 := by rw [← cnt_drop (s := s) s.length (by
                rcases piece_adds h he with ⟨a1, _⟩ | ⟨_, a2, _⟩
                · rw [hp] at a1; exact absurd a1 Bool.false_ne_true
                · rw [hp] at a2; exact a2), List.drop_length]; rfl
              rw [hp, hcs, hC]
              simp [tokL]
              omega
      · refine .err (piece s).1 line col (piece_errs he) (Int.le_refl _) hcol (fun F xs hF => ?_) (fun F xs b hF => ?_) (fun F xs q hq hF => ?_)
        · obtain ⟨F, rfl⟩ : ∃ m, F = m + 1 := ⟨F - 1, by omega⟩
          rw [toks_err h he]
        · obtain ⟨F, rfl⟩ : ∃ m, F = m + 1 := ⟨F - 1, by omega⟩
          have hp := piece_join h b
          rw [toks_err (ha _) (by rw [hp]; exact he), hp]
        · obtain ⟨F, rfl⟩ : ∃ m, F = m + 1 := ⟨F - 1, by omega⟩
          rcases piece_rem h hq with hp | ⟨hp, _⟩
          · rw [toks_err (ha _) (by rw [hp]; exact he), hp]
          · rw [hp] at he; exact absurd rfl he
end Go.Proofs.YtddbkcfdfgehkaaDoor.Q

-- A text read further down: the same tokens, some lines further.
namespace Go.Proofs.YtddbkcfdfgehkaaDoor.Q
open Go.RowKit Go.Proofs.YtddbkcfdfgehkaaDoorW.PrintWords Go.Proofs.YtddbkcfdfgehkaaDoorW.PrintLast Go.Proofs.YtddbkcfdfgehkaaDoorW.PrintMore
attribute [local go_sem] max2_int min2_int max_two min_two max_three min_three max_four min_four   -- for this text's walks alone
set_option linter.unusedVariables false
set_option linter.unusedSimpArgs false

def shL (d : Int) (t : S46) : S46 := ⟨t.f0, t.f1, t.f2, t.f3 + d, t.f4⟩
theorem tokL_sh (t : Option (Int × ByteArray × Int)) (line d col : Int) : tokL t (line + d) col = (tokL t line col).map (shL d) := by
  unfold tokL; split <;> rfl
theorem toks_shift (F : Nat) : ∀ (s : List Int), s.length < F → ∀ (line d col : Int) (P xs : List S46),
    toks F s (line + d) col (P ++ xs.map (shL d)) = if (toks F s line col xs).2.1 = 0 then (P ++ (toks F s line col xs).1.map (shL d), 0, 0, 0) else ([], (toks F s line col xs).2.1, (toks F s line col xs).2.2.1 + d, (toks F s line col xs).2.2.2) := by
  induction F with
  | zero => intro s hs; omega
  | succ F ih =>
    intro s hs line d col P xs
    by_cases h : s = []
    · subst h
      rw [toks_end, toks_end, if_pos rfl]
      simp [shL]
    · by_cases he : (piece s).1 = 0
      · have h1 := piece_pos h he
        have h2 : 0 < s.length := List.length_pos_iff.mpr h
        rw [toks_go h he, toks_go h he]
        have e1 : (if (piece s).2.2.2 = true then line + d + 1 else line + d) = (if (piece s).2.2.2 = true then line + 1 else line) + d := by split <;> omega
        have e2 : P ++ xs.map (shL d) ++ tokL (piece s).2.2.1 (line + d) col = P ++ (xs ++ tokL (piece s).2.2.1 line col).map (shL d) := by rw [tokL_sh]; simp
        rw [e1, e2]
        exact ih _ (by rw [List.length_drop]; omega) _ _ _ _ _
      · rw [toks_err h he, toks_err h he, if_neg he]
/-- Lines and places stay small. -/
theorem toks_small (F : Nat) : ∀ (s : List Int), s.length < F → ∀ (line col : Int) (xs : List S46) (B : Int), (∀ t ∈ xs, 0 ≤ t.f3 ∧ t.f3 ≤ B) → 0 ≤ line → line + s.length ≤ B →
    (∀ t ∈ (toks F s line col xs).1, 0 ≤ t.f3 ∧ t.f3 ≤ B) ∧ 0 ≤ (toks F s line col xs).2.2.1 ∧ (toks F s line col xs).2.2.1 ≤ B := by
  induction F with
  | zero => intro s hs; omega
  | succ F ih =>
    intro s hs line col xs B hx hl0 hl
    by_cases h : s = []
    · subst h
      rw [toks_end]
      simp only [List.length_nil] at hl
      refine ⟨fun t ht => ?_, by simp, by simp; omega⟩
      rcases List.mem_append.1 ht with ht | ht
      · exact hx t ht
      · simp at ht; subst ht; simp; omega
    · by_cases he : (piece s).1 = 0
      · have h1 := piece_pos h he
        have h2 : 0 < s.length := List.length_pos_iff.mpr h
        have h3 := piece_le s
        rw [toks_go h he]
        refine ih _ (by rw [List.length_drop]; omega) _ _ _ B (fun t ht => ?_) (by split <;> omega) (by rw [List.length_drop]; split <;> omega)
        rcases List.mem_append.1 ht with ht | ht
        · exact hx t ht
        · have : t.f3 = line := by
            unfold tokL at ht; split at ht
            · simp at ht
            · simp at ht; subst ht; rfl
          omega
      · rw [toks_err h he]
        exact ⟨by simp, hl0, by simp; omega⟩
/-- Two texts, a line's end between. -/
inductive Joined (r1 : List S46) (e1 e2 e3 : Int) (r2 : List S46) (f1 f2 f3 : Int) (r3 : List S46) (h1 h2 h3 : Int) : Prop
  | first (he : e1 ≠ 0) (a1 : h1 = e1) (a2 : h2 = e2) (a3 : h3 = e3) (a4 : r3 = []) : Joined r1 e1 e2 e3 r2 f1 f2 f3 r3 h1 h2 h3
  | second (ys : List S46) (L C : Int) (b0 : 0 ≤ L) (b1 : L ≤ 10000) (c0 : 0 ≤ f2) (c1 : f2 ≤ 10000) (hy : ys.length ≤ 10000) (e : r1 = ys ++ [⟨4, (⟨#[]⟩ : ByteArray), 0, L, C⟩]) (he : e1 = 0) (hf : f1 ≠ 0) (a1 : h1 = f1) (a2 : h2 = f2 + L) (a3 : h3 = f3) : Joined r1 e1 e2 e3 r2 f1 f2 f3 r3 h1 h2 h3
  | both (ys : List S46) (L C : Int) (b0 : 0 ≤ L) (b1 : L ≤ 10000) (hs : ∀ t ∈ r2, 0 ≤ t.f3 ∧ t.f3 ≤ 10000) (hy : ys.length ≤ 10000) (hy2 : r2.length ≤ 10000) (e : r1 = ys ++ [⟨4, (⟨#[]⟩ : ByteArray), 0, L, C⟩]) (he : e1 = 0) (hf : f1 = 0) (hh : h1 = 0) (a : r3 = ys ++ [⟨3, (⟨#[]⟩ : ByteArray), 0, L, C⟩] ++ r2.map (shL L)) : Joined r1 e1 e2 e3 r2 f1 f2 f3 r3 h1 h2 h3
theorem joined (a b : List Int) (ha : a.length ≤ 2000) (hb : b.length ≤ 2000) : Joined (lexToks a).1 (lexToks a).2.1 (lexToks a).2.2.1 (lexToks a).2.2.2 (lexToks b).1 (lexToks b).2.1 (lexToks b).2.2.1 (lexToks b).2.2.2 (lexToks (a ++ 10 :: b)).1 (lexToks (a ++ 10 :: b)).2.1 (lexToks (a ++ 10 :: b)).2.2.1 (lexToks (a ++ 10 :: b)).2.2.2 := by
  have hlen : (a ++ 10 :: b).length = a.length + (b.length + 1) := by simp
  cases way _ a (Nat.le_refl _) 1 1 (Int.le_refl _) with
  | err e l c he hl hc g0 g1 g2 =>
    have e1 : lexToks a = ([], e, l, c) := g0 _ _ (by omega)
    have e2 : lexToks (a ++ 10 :: b) = ([], e, l, c) := g1 _ _ b (by omega)
    rw [e1, e2]
    exact .first (by show e ≠ 0; omega) rfl rfl rfl rfl
  | ok ys C hn hk hy g0 g1 g2 =>
    have e1 : lexToks a = ([] ++ ys ++ [⟨4, (⟨#[]⟩ : ByteArray), 0, 1 + (cnt a : Int), C⟩], 0, 0, 0) := g0 _ _ (by omega)
    have e2 : lexToks (a ++ 10 :: b) = toks (b.length + 1) b (1 + (cnt a : Int) + 1) 1 ([] ++ ys ++ [⟨3, (⟨#[]⟩ : ByteArray), 0, 1 + (cnt a : Int), C⟩]) := g1 _ _ b (by omega)
    have hcn : cnt a ≤ a.length := List.countP_le_length
    have hs := toks_shift (b.length + 1) b (by omega) 1 (1 + (cnt a : Int)) 1 (ys ++ [⟨3, (⟨#[]⟩ : ByteArray), 0, 1 + (cnt a : Int), C⟩]) []
    have hm := toks_small (b.length + 1) b (by omega) 1 1 [] 10000 (by simp) (by omega) (by omega)
    have hbl := toks_len (b.length + 1) b 1 1 []
    rw [List.map_nil, List.append_nil, show (1 : Int) + (1 + (cnt a : Int)) = 1 + (cnt a : Int) + 1 from by omega] at hs
    have e3 := e2
    rw [List.nil_append, hs] at e3
    rw [e1]
    by_cases hz : (lexToks b).2.1 = 0
    · have e4 : lexToks (a ++ 10 :: b) = (ys ++ [⟨3, (⟨#[]⟩ : ByteArray), 0, 1 + (cnt a : Int), C⟩] ++ (lexToks b).1.map (shL (1 + (cnt a : Int))), 0, 0, 0) := by rw [e3]; unfold lexToks at hz; rw [if_pos hz]; rfl
      rw [e4]
      refine .both ys (1 + (cnt a : Int)) C (by omega) (by omega) hm.1 (by omega) (by unfold lexToks; simp at hbl; omega) rfl rfl hz rfl rfl
    · have e4 : lexToks (a ++ 10 :: b) = ([], (lexToks b).2.1, (lexToks b).2.2.1 + (1 + (cnt a : Int)), (lexToks b).2.2.2) := by rw [e3]; unfold lexToks at hz; rw [if_neg hz]; rfl
      rw [e4]
      refine .second ys (1 + (cnt a : Int)) C (by omega) (by omega) hm.2.1 hm.2.2 (by omega) rfl rfl hz rfl rfl rfl
end Go.Proofs.YtddbkcfdfgehkaaDoor.Q
