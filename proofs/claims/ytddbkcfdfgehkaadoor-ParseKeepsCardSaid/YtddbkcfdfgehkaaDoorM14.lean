-- Texts of this claim, put together: HparsG, LparsU, LparsV, LparsW, LparsX, LparsY, HrefA, LparsZ, LrefK.
import Derived.Test.YtddbkcfdfgehkaaDoorM0
import Derived.Test.YtddbkcfdfgehkaaDoorM1
import Derived.Test.YtddbkcfdfgehkaaDoorHparsF
import Derived.Test.YtddbkcfdfgehkaaDoorM12
import Derived.Test.YtddbkcfdfgehkaaDoorHparsE
import Derived.IntWalk
import Derived.WalkSpells
import Derived.Test.YtddbkcfdfgehkaaDoorQ10
import Derived.Test.YtddbkcfdfgehkaaDoorQ16
-- parse.Set and parse.Mode, in the printer's own form.
namespace Go.Proofs.YtddbkcfdfgehkaaDoor.Q
open Go.RowKit Go.Proofs.YtddbkcfdfgehkaaDoorW.PrintWords Go.Proofs.YtddbkcfdfgehkaaDoorW.PrintLast Go.Proofs.YtddbkcfdfgehkaaDoorW.PrintMore
attribute [local go_sem] max2_int min2_int max_two min_two max_three min_three max_four min_four   -- for this text's walks alone
set_option linter.unusedVariables false
set_option linter.unusedSimpArgs false

def parse_Mode.f (a0 : ByteArray) : Option Int := some (modeOf a0)
theorem parse_Mode.calls (a0 : ByteArray) (r : Int) (w : World) (h : parse_Mode.f a0 = some r) :
  Calls Tryd.prog 14 #[.string a0] w fun e w' => e = .returned (.int .i64 r) ∧ Below w.heap.size w w' := by
 obtain rfl := Option.some.inj h
 exact mode_ask a0 w
def parse_Set.f (l0 : List Int) : Option (Int × (List (S40)) × Int × Int × Int) := if okBytes l0 = true ∧ l0.length ≤ 100000 then some (parseF l0) else none
theorem parse_Set.calls (A0 : Option Addr) (c0 : Nat) (l0 : List Int) (r1 : Int) (r2 : List (S40)) (r3 : Int) (r4 : Int) (r5 : Int) (w : World) (hr0 : Kd.C (Kd.int .u8) w A0 l0.length l0) (hc0 : l0.length ≤ c0) (h : parse_Set.f l0 = some (r1, r2, r3, r4, r5)) :
  Calls Tryd.prog 10 #[.slice A0 l0.length c0] w fun e w' => ∃ v0_ : Value, e = .returned (.tuple #[.agg #[.int .i64 r1, v0_], .agg #[.int .i64 r3, .int .i64 r4, .int .i64 r5]]) ∧ Kd.R k40 40 w' w.heap.size (fun _ => True) v0_ r2 ∧ Below w.heap.size w w' := by
 unfold parse_Set.f at h
 split at h
 case isFalse => exact absurd h (by simp)
 case isTrue hcond =>
 have h2 := Option.some.inj h
 have e1 : (parseF l0).1 = r1 := by rw [h2]
 have e2 : (parseF l0).2.1 = r2 := by rw [h2]
 have e3 : (parseF l0).2.2.1 = r3 := by rw [h2]
 have e4 : (parseF l0).2.2.2.1 = r4 := by rw [h2]
 have e5 : (parseF l0).2.2.2.2 = r5 := by rw [h2]
 rw [← e1, ← e2, ← e3, ← e4, ← e5]
 exact set_ask A0 c0 l0 w hr0 hc0 hcond.1 hcond.2
end Go.Proofs.YtddbkcfdfgehkaaDoor.Q

-- What holds of a text's tokens, and of a text behind itself (no program in sight).
namespace Go.Proofs.YtddbkcfdfgehkaaDoor.Q
open Go.RowKit Go.Proofs.YtddbkcfdfgehkaaDoorW.PrintWords Go.Proofs.YtddbkcfdfgehkaaDoorW.PrintLast Go.Proofs.YtddbkcfdfgehkaaDoorW.PrintMore
attribute [local go_sem] max2_int min2_int max_two min_two max_three min_three max_four min_four   -- for this text's walks alone
set_option linter.unusedVariables false
set_option linter.unusedSimpArgs false

def Good (N : Nat) (t : TOK) : Prop := 1 ≤ t.f0 ∧ t.f0 ≤ 4 ∧ 1 ≤ t.f3 ∧ 1 ≤ t.f4 ∧ t.f4 ≤ N + 1
theorem piece_kinds {s : List Int} (hs : s ≠ []) (he : (piece s).1 = 0) : (piece s).2.2.1 = none ∨ ∃ k x v, (k = 1 ∨ k = 2 ∨ k = 3) ∧ (piece s).2.2.1 = some (k, x, v) := by
 rcases piece_adds hs he with ⟨-, -, -, h⟩ | ⟨-, -, h | ⟨k, x, v, hk, h⟩⟩
 ·exact .inr ⟨3, _, _, .inr (.inr rfl), h⟩
 ·exact .inl h
 ·exact .inr ⟨k, x, v, by omega, h⟩
theorem toksI (N : Nat) (f : Nat) : ∀ (s : List Int) (line col : Int) (xs : List TOK), s.length < f → 1 ≤ line → 1 ≤ col → col + s.length ≤ N + 1 →
  ((toks f s line col xs).2.1 = 0 → ∃ (ys : List TOK) (L C : Int), (toks f s line col xs).1 = xs ++ ys ++ [⟨4, (⟨#[]⟩ : ByteArray), 0, L, C⟩] ∧ 1 ≤ L ∧ 1 ≤ C ∧ C ≤ N + 1 ∧ ∀ t ∈ ys, Good N t ∧ t.f0 ≤ 3) ∧
  ((toks f s line col xs).2.1 ≠ 0 → 1 ≤ (toks f s line col xs).2.2.1 ∧ 1 ≤ (toks f s line col xs).2.2.2 ∧ (toks f s line col xs).2.2.2 ≤ N + 1) := by
 induction f with
 | zero => intro s _ _ _ h; omega
 | succ f ih =>
  intro s line col xs h h1 h2 h3
  simp only [toks]
  by_cases hs : s = []
  ·subst hs
   rw [if_pos rfl]
   refine ⟨fun _ => ⟨[], line, col, by simp, h1, h2, by simp at h3; exact h3, by simp⟩, fun h => absurd rfl h⟩
  ·rw [if_neg hs]
   by_cases he : (piece s).1 ≠ 0
   ·rw [if_pos he]
    exact ⟨fun h => absurd h he, fun _ => ⟨h1, h2, by show col ≤ N + 1; omega⟩⟩
   ·rw [if_neg he]
    have he0 : (piece s).1 = 0 := by omega
    have p1 := piece_pos hs he0
    have p2 := piece_le s
    have hlen : (s.drop (piece s).2.1).length = s.length - (piece s).2.1 := List.length_drop ..
    have hk : ∀ t ∈ tokL (piece s).2.2.1 line col, Good N t ∧ t.f0 ≤ 3 := by
     intro t ht
     rcases piece_kinds hs he0 with hp | ⟨k, x, v, hk, hp⟩
     ·rw [hp] at ht; cases ht
     ·rw [hp] at ht
      simp only [tokL, List.mem_cons, List.not_mem_nil, or_false] at ht
      subst ht
      exact ⟨⟨by show 1 ≤ k; omega, by show k ≤ 4; omega, h1, h2, by show col ≤ N + 1; omega⟩, by show k ≤ 3; omega⟩
    have h4 := ih (s.drop (piece s).2.1) (if (piece s).2.2.2 = true then line + 1 else line) (if (piece s).2.2.2 = true then 1 else col + (piece s).2.1) (xs ++ tokL (piece s).2.2.1 line col) (by omega) (by split <;> omega) (by split <;> omega) (by rw [hlen]; split <;> omega)
    refine ⟨fun h => ?_, h4.2⟩
    obtain ⟨ys, L, C, g1, g2, g3, g4, g5⟩ := h4.1 h
    refine ⟨tokL (piece s).2.2.1 line col ++ ys, L, C, by rw [g1]; simp, g2, g3, g4, fun t ht => ?_⟩
    rcases List.mem_append.1 ht with ht | ht
    ·exact hk t ht
    ·exact g5 t ht
theorem lexI (l : List Int) : ((lexToks l).2.1 = 0 → ∃ (ys : List TOK) (L C : Int), (lexToks l).1 = ys ++ [⟨4, (⟨#[]⟩ : ByteArray), 0, L, C⟩] ∧ 1 ≤ L ∧ 1 ≤ C ∧ C ≤ l.length + 1 ∧ ∀ t ∈ ys, Good l.length t ∧ t.f0 ≤ 3) ∧
  ((lexToks l).2.1 ≠ 0 → 1 ≤ (lexToks l).2.2.1 ∧ 1 ≤ (lexToks l).2.2.2 ∧ (lexToks l).2.2.2 ≤ l.length + 1) := by
 have h := toksI l.length (l.length + 1) l 1 1 [] (by omega) (by omega) (by omega) (by omega)
 unfold lexToks
 refine ⟨fun h0 => ?_, h.2⟩
 obtain ⟨ys, L, C, g⟩ := h.1 h0
 exact ⟨ys, L, C, by simpa using g⟩
end Go.Proofs.YtddbkcfdfgehkaaDoor.Q

-- What holds of a parser's answer: its places, and how many tasks it has (no program in sight).
namespace Go.Proofs.YtddbkcfdfgehkaaDoor.Q
open Go.RowKit Go.Proofs.YtddbkcfdfgehkaaDoorW.PrintWords Go.Proofs.YtddbkcfdfgehkaaDoorW.PrintLast Go.Proofs.YtddbkcfdfgehkaaDoorW.PrintMore
attribute [local go_sem] max2_int min2_int max_two min_two max_three min_three max_four min_four   -- for this text's walks alone
set_option linter.unusedVariables false
set_option linter.unusedSimpArgs false

/-- What is kept: tokens of which Q holds, and a place of one of these. -/
def Keeps (Q : TOK → Prop) (p : PS) : Prop := (∀ t ∈ p.l, Q t) ∧ Ends p.l ∧ (∀ t ∈ p.hs, Q t) ∧ (p.e ≠ 0 → ∃ t, Q t ∧ p.ln = t.f3 ∧ p.cl = t.f4)
section
variable {Q : TOK → Prop} {p : PS}
theorem now_mem (h : Ends p.l) : p.now ∈ p.l := by
 unfold PS.now
 cases hl : p.l with
 | nil => exact absurd hl h.ne
 | cons a r => exact List.mem_cons_self
theorem take_keeps (h : Keeps Q p) (k : Int) (hk : k ≠ 4) (tx : List ByteArray) : Keeps Q (p.take k tx).1 := by
 have hE := take_ends h.2.1 k hk tx
 obtain ⟨h1, h2, h3, h4⟩ := h
 refine ⟨?_, hE, by rw [(take_hs p k tx).1]; exact h3, ?_⟩
 ·intro t ht
  unfold PS.take PS.fail at ht
  split at ht
  ·exact h1 t (List.mem_of_mem_tail ht)
  ·split at ht <;> exact h1 t ht
 ·intro he
  unfold PS.take PS.fail at he ⊢
  split
  ·rename_i hf; rw [if_pos hf] at he; exact h4 he
  ·rename_i hf
   rw [if_neg hf] at he
   split
   ·exact ⟨p.now, h1 _ (now_mem h2), rfl, rfl⟩
   ·rename_i h0; exact h4 h0
theorem nums_keeps (h : Keeps Q p) : ∀ n, Keeps Q (PS.nums n p).1
 | 0 => h
 | n + 1 => take_keeps (nums_keeps h n) 2 (by decide) []
theorem fin_keeps (h : Keeps Q p) : Keeps Q p.fin := by
 unfold PS.fin
 split
 ·exact h
 ·exact take_keeps h 3 (by decide) []
theorem blank_keeps (h : Keeps Q p) : Keeps Q p.blank := by
 obtain ⟨h1, h2, h3, h4⟩ := h
 refine ⟨fun t ht => h1 t ((List.dropWhile_suffix _).subset ht), ?_, h3, h4⟩
 obtain ⟨r, t, hr, ht⟩ := h2
 unfold PS.blank
 show Ends (p.l.dropWhile _)
 rw [hr]
 clear hr h1
 induction r with
 | nil => exact ⟨[], t, by rw [List.nil_append, List.dropWhile_cons, if_neg (by rw [ht]; decide)], ht⟩
 | cons a r ih =>
  rw [List.cons_append, List.dropWhile_cons]
  split
  ·exact ih
  ·exact ⟨a :: r, t, rfl, ht⟩
theorem one_keeps (h : Keeps Q p) : Keeps Q p.one := by
 obtain ⟨p1, hp1⟩ : ∃ p1 : PS, { p with hs := p.hs ++ [p.now] } = p1 := ⟨_, rfl⟩
 have h1 : Keeps Q p1 := by
  rw [← hp1]
  refine ⟨h.1, h.2.1, fun t ht => ?_, h.2.2.2⟩
  rcases List.mem_append.1 ht with ht | ht
  ·exact h.2.2.1 t ht
  ·simp at ht; rw [ht]; exact h.1 _ (now_mem h.2.1)
 have h7 := fin_keeps (nums_keeps (take_keeps (nums_keeps (take_keeps (take_keeps h1 1 (by decide) [wTask]) 1 (by decide) []) 3) 1 (by decide) [wRetry, wBlock, wBackup]) 6)
 unfold PS.one
 simp only [hp1]
 exact h7
theorem first_keeps (h : Keeps Q p) : Keeps Q p.first ∧ Q p.first.bt := by
 have h1 := take_keeps h 1 (by decide) [wBurst]
 obtain ⟨q, hq⟩ : ∃ q, (p.take 1 [wBurst]).1 = q := ⟨_, rfl⟩
 rw [hq] at h1
 have h2 : Keeps Q { q with bt := q.now } := h1
 have hb : Q q.now := h1.1 _ (now_mem h1.2.1)
 have h3 := take_keeps h2 2 (by decide) []
 obtain ⟨u, hu⟩ : ∃ u, ({ q with bt := q.now } : PS).take 2 [] = u := ⟨_, rfl⟩
 rw [hu] at h3
 have hub : u.1.bt = q.now := by rw [← hu]; exact (take_hs _ 2 []).2.2.2
 have ef : p.first = ({ u.1 with b := u.2.f2 } : PS).fin := by
  unfold PS.first PS.num
  simp only [hq, hu]
 have h4 : Keeps Q { u.1 with b := u.2.f2 } := h3
 rw [ef]
 refine ⟨fin_keeps h4, ?_⟩
 have : ({ u.1 with b := u.2.f2 } : PS).fin.bt = u.1.bt := by
  unfold PS.fin
  split
  ·rfl
  ·exact (take_hs _ 3 []).2.2.2
 rw [this, hub]; exact hb
theorem one_bt (p : PS) : p.one.bt = p.bt := by
 have nb : ∀ n (q : PS), (PS.nums n q).1.bt = q.bt := by
  intro n q
  induction n with
  | zero => rfl
  | succ n ih => exact ((take_hs _ 2 []).2.2.2).trans ih
 have fb : ∀ q : PS, q.fin.bt = q.bt := by
  intro q
  unfold PS.fin
  split
  ·rfl
  ·exact (take_hs _ 3 []).2.2.2
 unfold PS.one
 simp only [fb, nb, (take_hs _ _ _).2.2.2]
theorem go_keeps : ∀ (n : Nat) (p : PS), Keeps Q p → Q p.bt → p.hs.length = p.ts.length → Keeps Q (PS.go n p) ∧ Q (PS.go n p).bt ∧ (PS.go n p).hs.length = (PS.go n p).ts.length
 | 0, p, h, hb, hl => ⟨h, hb, hl⟩
 | n + 1, p, h, hb, hl => by
  rw [PS.go]
  split
  ·refine go_keeps n p.one.blank (blank_keeps (one_keeps h)) ?_ ?_
   ·show Q p.one.bt
    rw [one_bt]; exact hb
   ·show p.one.hs.length = p.one.ts.length
    rw [(one_hs p).1, (one_hs p).2, hl]
  ·exact ⟨h, hb, hl⟩
theorem wrong_place (h : Keeps Q p) (hb : Q p.bt) (hl : p.hs.length = p.ts.length) (hw : p.wrong.1 ≠ 0) : ∃ t, Q t ∧ p.wrong.2.1 = t.f3 ∧ p.wrong.2.2 = t.f4 := by
 have hg : ∀ i, i < p.hs.length → Q (p.hs.getD i z46) := fun i hi => by
  rw [List.getD_eq_getElem?_getD, List.getElem?_eq_getElem hi]; exact h.2.2.1 _ (List.getElem_mem hi)
 unfold PS.wrong at hw ⊢
 simp only at hw ⊢
 by_cases h0 : (whyS p.b p.ts).1 = 0
 ·rw [if_pos h0] at hw; exact absurd rfl hw
 ·rw [if_neg h0]
  refine ⟨_, ?_, rfl, rfl⟩
  rcases whyS_range p.b p.ts with h1 | h1 | ⟨h1, h2⟩ | ⟨h1, h2, h3⟩
  ·exact absurd h1 h0
  ·rw [if_pos h1]; exact hb
  ·rw [if_neg (by omega), if_pos h1]
   split
   ·rename_i h4; exact hg 16 (by omega)
   ·exact h.1 _ (now_mem h.2.1)
  ·rw [if_neg (by omega), if_neg (by omega)]
   exact hg _ (by omega)
end
/-- Where a text isn't read: no tasks, and a place in it. -/
theorem parse_place (l : List Int) (h : (parseF l).2.2.1 ≠ 0) : (parseF l).2.1 = [] ∧ (parseF l).1 = 0 ∧ 1 ≤ (parseF l).2.2.2.1 ∧ 1 ≤ (parseF l).2.2.2.2 ∧ (parseF l).2.2.2.2 ≤ l.length + 1 := by
 have hL := lexI l
 unfold parseF at h ⊢
 by_cases h0 : (lexToks l).2.1 = 0
 ·rw [if_pos h0] at h ⊢
  obtain ⟨ys, L, C, e1, e2, e3, e4, e5⟩ := hL.1 h0
  have hK : Keeps (fun t => 1 ≤ t.f3 ∧ 1 ≤ t.f4 ∧ t.f4 ≤ l.length + 1) (PS.init (lexToks l).1) := by
   refine ⟨fun t ht => ?_, ?_, fun t ht => (by cases ht), fun he => absurd rfl he⟩
   ·show 1 ≤ t.f3 ∧ 1 ≤ t.f4 ∧ t.f4 ≤ l.length + 1
    have ht : t ∈ (lexToks l).1 := ht
    rw [e1] at ht
    rcases List.mem_append.1 ht with ht | ht
    ·have := (e5 t ht).1; unfold Good at this; omega
    ·simp at ht; subst ht; exact ⟨e2, e3, e4⟩
   ·exact ⟨ys, _, e1, rfl⟩
  have h1 := first_keeps (blank_keeps hK)
  have hh := first_hs (PS.init (lexToks l).1).blank
  have h2 := go_keeps (lexToks l).1.length _ (blank_keeps h1.1) h1.2 (by
   show (PS.init (lexToks l).1).blank.first.hs.length = (PS.init (lexToks l).1).blank.first.ts.length
   rw [hh.1, hh.2]; rfl)
  unfold parseToks at h ⊢
  simp only at h ⊢
  obtain ⟨F, hF⟩ : ∃ F, PS.go (lexToks l).1.length (PS.init (lexToks l).1).blank.first.blank = F := ⟨_, rfl⟩
  rw [hF] at h h2 ⊢
  by_cases he : F.e = 0
  ·simp only [if_pos he] at h ⊢
   by_cases hw : F.wrong.1 = 0
   ·rw [if_pos hw] at h; exact absurd rfl h
   ·rw [if_neg hw]
    obtain ⟨t, ht, g1, g2⟩ := wrong_place h2.1 h2.2.1 h2.2.2 hw
    refine ⟨rfl, rfl, ?_⟩
    show 1 ≤ F.wrong.2.1 ∧ 1 ≤ F.wrong.2.2 ∧ F.wrong.2.2 ≤ l.length + 1
    rw [g1, g2]; exact ht
  ·simp only [if_neg he]
   obtain ⟨t, ht, g1, g2⟩ := h2.1.2.2.2 he
   refine ⟨by trivial, by trivial, ?_⟩
   show 1 ≤ F.ln ∧ 1 ≤ F.cl ∧ F.cl ≤ l.length + 1
   rw [g1, g2]; exact ht
 ·rw [if_neg h0] at h ⊢
  exact ⟨rfl, rfl, hL.2 h0⟩
/-- A text that is read is a right set. -/
theorem parse_right (l : List Int) (h : (parseF l).2.2.1 = 0) : (whyS (parseF l).1 (parseF l).2.1).1 = 0 := by
 unfold parseF at h ⊢
 by_cases h0 : (lexToks l).2.1 = 0
 ·rw [if_pos h0] at h ⊢
  unfold parseToks at h ⊢
  simp only at h ⊢
  obtain ⟨F, hF⟩ : ∃ F, PS.go (lexToks l).1.length (PS.init (lexToks l).1).blank.first.blank = F := ⟨_, rfl⟩
  rw [hF] at h ⊢
  by_cases he : F.e = 0
  ·simp only [if_pos he] at h ⊢
   by_cases hw : F.wrong.1 = 0
   ·rw [if_pos hw]
    show (whyS F.b F.ts).1 = 0
    rcases Decidable.em ((whyS F.b F.ts).1 = 0) with h1 | h1
    ·exact h1
    ·refine absurd hw ?_
     unfold PS.wrong
     simp only [if_neg h1]
     decide
   ·rw [if_neg hw] at h; exact absurd h hw
  ·simp only [if_neg he] at h
   exact absurd h he
 ·rw [if_neg h0] at h
  exact absurd h h0
-- counting numbers: a task has nine
section
variable {p : PS}
theorem blank_ends (h : Ends p.l) : Ends p.blank.l := by
 obtain ⟨r, t, hr, ht⟩ := h
 unfold PS.blank
 show Ends (p.l.dropWhile _)
 rw [hr]
 clear hr
 induction r with
 | nil => exact ⟨[], t, by rw [List.nil_append, List.dropWhile_cons, if_neg (by rw [ht]; decide)], ht⟩
 | cons a r ih =>
  rw [List.cons_append, List.dropWhile_cons]
  split
  ·exact ih
  ·exact ⟨a :: r, t, rfl, ht⟩
theorem one_ends (h : Ends p.l) : Ends p.one.l := by
 obtain ⟨p1, hp1⟩ : ∃ p1 : PS, { p with hs := p.hs ++ [p.now] } = p1 := ⟨_, rfl⟩
 have h1 : Ends p1.l := by rw [← hp1]; exact h
 have h7 := fin_ends (nums_ends 6 _ (take_ends (nums_ends 3 _ (take_ends (take_ends h1 1 (by decide) [wTask]) 1 (by decide) [])) 1 (by decide) [wRetry, wBlock, wBackup]))
 unfold PS.one
 simp only [hp1]
 exact h7
end
-- a text's beginning has no more numbers
end Go.Proofs.YtddbkcfdfgehkaaDoor.Q

-- A text with more blanks, remarks and lines: the same set (no program in sight).
namespace Go.Proofs.YtddbkcfdfgehkaaDoor.Q
open Go.RowKit Go.Proofs.YtddbkcfdfgehkaaDoorW.PrintWords Go.Proofs.YtddbkcfdfgehkaaDoorW.PrintLast Go.Proofs.YtddbkcfdfgehkaaDoorW.PrintMore
attribute [local go_sem] max2_int min2_int max_two min_two max_three min_three max_four min_four   -- for this text's walks alone
set_option linter.unusedVariables false
set_option linter.unusedSimpArgs false

def RT (a b : TOK) : Prop := b.f0 = a.f0 ∧ b.f1 = a.f1 ∧ b.f2 = a.f2 ∧ b.f3 = 2 * a.f3 + 1
inductive Dbl : List TOK → List TOK → Prop
 | nil : Dbl [] []
 | line (a b c : TOK) (r r' : List TOK) (ha : a.f0 = 3) (hb : RT a b) (hc : c.f0 = 3) (h : Dbl r r') : Dbl (a :: r) (b :: c :: r')
 | other (a b : TOK) (r r' : List TOK) (ha : a.f0 ≠ 3) (hb : RT a b) (h : Dbl r r') : Dbl (a :: r) (b :: r')
theorem Dbl.app {x x' y y' : List TOK} (h : Dbl x x') (g : Dbl y y') : Dbl (x ++ y) (x' ++ y') := by
 induction h with
 | nil => exact g
 | line a b c r r' ha hb hc _ ih => exact .line a b c _ _ ha hb hc ih
 | other a b r r' ha hb _ ih => exact .other a b _ _ ha hb ih
-- the parser on both
structure Sim (p q : PS) : Prop where
 l : Dbl p.l q.l
 e : q.e = p.e
 ln : p.e ≠ 0 → q.ln = 2 * p.ln + 1
 b : q.b = p.b
 ts : q.ts = p.ts
 hl : q.hs.length = p.hs.length
 hs : ∀ i, i < p.hs.length → RT (p.hs.getD i z46) (q.hs.getD i z46)
theorem Dbl.now {l l' : List TOK} (h : Dbl l l') (hn : l ≠ []) : RT (l.headD z46) (l'.headD z46) := by
 cases h with
 | nil => exact absurd rfl hn
 | line a b c r r' ha hb hc h => exact hb
 | other a b r r' ha hb h => exact hb
section
variable {p q : PS}
theorem Sim.now (h : Sim p q) (hn : p.l ≠ []) : RT p.now q.now := h.l.now hn
theorem Sim.fits (h : Sim p q) (hn : p.l ≠ []) (k : Int) (tx : List ByteArray) : q.fits k tx = p.fits k tx := by
 obtain ⟨h0, h1, -, -⟩ := h.now hn
 unfold PS.fits
 rw [h.e, h0, h1]
theorem Sim.fail (h : Sim p q) (hn : p.l ≠ []) : Sim p.fail q.fail := by
 have hr := h.now hn
 unfold PS.fail
 rw [h.e]
 split
 ·exact ⟨h.l, rfl, fun _ => hr.2.2.2, h.b, h.ts, h.hl, h.hs⟩
 ·exact h
theorem Sim.take (h : Sim p q) (hn : p.l ≠ []) (k : Int) (hk : k ≠ 3) (tx : List ByteArray) : Sim (p.take k tx).1 (q.take k tx).1 ∧ (q.take k tx).2.f1 = (p.take k tx).2.f1 ∧ (q.take k tx).2.f2 = (p.take k tx).2.f2 := by
 have hr := h.now hn
 unfold PS.take
 rw [h.fits hn]
 by_cases hf : p.fits k tx = true
 ·rw [if_pos hf, if_pos hf]
  have hk0 : p.now.f0 = k := by unfold PS.fits at hf; simp at hf; exact hf.1.2
  refine ⟨⟨?_, h.e, h.ln, h.b, h.ts, h.hl, h.hs⟩, hr.2.1, hr.2.2.1⟩
  have hl := h.l
  show Dbl p.l.tail q.l.tail
  obtain ⟨pl, hpl⟩ : ∃ pl, p.l = pl := ⟨_, rfl⟩
  obtain ⟨ql, hql⟩ : ∃ ql, q.l = ql := ⟨_, rfl⟩
  have hk1 : (pl.headD z46).f0 = k := by rw [← hpl]; exact hk0
  rw [hpl, hql] at hl ⊢
  cases hl with
  | nil => exact .nil
  | line a b c r r' ha hb hc h2 => exact absurd (hk1.symm.trans ha) hk
  | other a b r r' ha hb h2 => exact h2
 ·rw [if_neg hf, if_neg hf]
  exact ⟨h.fail hn, rfl, rfl⟩
theorem Sim.nums (h : Sim p q) (hE : Ends p.l) : ∀ n, Sim (PS.nums n p).1 (PS.nums n q).1 ∧ (PS.nums n q).2 = (PS.nums n p).2
 | 0 => ⟨h, rfl⟩
 | n + 1 => by
  obtain ⟨h1, h2⟩ := h.nums hE n
  obtain ⟨h3, -, h4⟩ := h1.take (nums_ends n p hE).ne 2 (by decide) []
  refine ⟨h3, ?_⟩
  show (PS.nums n q).2 ++ [((PS.nums n q).1.take 2 []).2.f2] = (PS.nums n p).2 ++ [((PS.nums n p).1.take 2 []).2.f2]
  rw [h2, h4]
theorem Dbl.blank {l l' : List TOK} (h : Dbl l l') : Dbl (l.dropWhile (fun t => t.f0 == 3)) (l'.dropWhile (fun t => t.f0 == 3)) := by
 induction h with
 | nil => exact .nil
 | line a b c r r' ha hb hc _ ih =>
  rw [List.dropWhile_cons, if_pos (by simpa using ha), List.dropWhile_cons, if_pos (by simpa using hb.1.trans ha), List.dropWhile_cons, if_pos (by simpa using hc)]
  exact ih
 | other a b r r' ha hb h _ =>
  rw [List.dropWhile_cons, if_neg (by simpa using ha), List.dropWhile_cons, if_neg (by rw [hb.1]; simpa using ha)]
  exact .other a b r r' ha hb h
theorem Sim.blank (h : Sim p q) : Sim p.blank q.blank := ⟨h.l.blank, h.e, h.ln, h.b, h.ts, h.hl, h.hs⟩
/-- A line's end, and blank lines behind it. -/
theorem Sim.fin (h : Sim p q) (hn : p.l ≠ []) : Sim p.fin.blank q.fin.blank := by
 have hr := h.now hn
 unfold PS.fin
 rw [h.e, hr.1]
 by_cases h4 : p.e = 0 ∧ p.now.f0 = 4
 ·rw [if_pos h4, if_pos h4]; exact h.blank
 ·rw [if_neg h4, if_neg h4]
  unfold PS.take
  rw [h.fits hn]
  by_cases hf : p.fits 3 [] = true
  ·rw [if_pos hf, if_pos hf]
   have hk0 : p.now.f0 = 3 := by unfold PS.fits at hf; simp at hf; exact hf.2
   refine ⟨?_, h.e, h.ln, h.b, h.ts, h.hl, h.hs⟩
   have hl := h.l
   show Dbl (p.l.tail.dropWhile _) (q.l.tail.dropWhile _)
   obtain ⟨pl, hpl⟩ : ∃ pl, p.l = pl := ⟨_, rfl⟩
   obtain ⟨ql, hql⟩ : ∃ ql, q.l = ql := ⟨_, rfl⟩
   have hk1 : (pl.headD z46).f0 = 3 := by rw [← hpl]; exact hk0
   rw [hpl, hql] at hl ⊢
   cases hl with
   | nil => exact .nil
   | line a b c r r' ha hb hc h2 =>
    rw [List.tail_cons, List.tail_cons, List.dropWhile_cons (x := c), if_pos (by simpa using hc)]
    exact h2.blank
   | other a b r r' ha hb h2 => exact absurd hk1 ha
  ·rw [if_neg hf, if_neg hf]
   exact (h.fail hn).blank
theorem Sim.one (h : Sim p q) (hE : Ends p.l) : Sim p.one.blank q.one.blank := by
 have hr := h.now hE.ne
 obtain ⟨p1, hp1⟩ : ∃ p1 : PS, { p with hs := p.hs ++ [p.now] } = p1 := ⟨_, rfl⟩
 obtain ⟨q1, hq1⟩ : ∃ q1 : PS, { q with hs := q.hs ++ [q.now] } = q1 := ⟨_, rfl⟩
 have h1 : Sim p1 q1 := by
  rw [← hp1, ← hq1]
  refine ⟨h.l, h.e, h.ln, h.b, h.ts, ?_, ?_⟩
  ·show (q.hs ++ [q.now]).length = (p.hs ++ [p.now]).length
   simp [h.hl]
  ·intro i hi
   simp only [List.length_append, List.length_cons, List.length_nil] at hi
   show RT ((p.hs ++ [p.now]).getD i _) ((q.hs ++ [q.now]).getD i _)
   by_cases hlt : i < p.hs.length
   ·have h2 := h.hs i hlt
    rw [List.getD_eq_getElem?_getD, List.getD_eq_getElem?_getD] at h2 ⊢
    rw [List.getElem?_append_left hlt, List.getElem?_append_left (by rw [h.hl]; exact hlt)]
    exact h2
   ·have : i = p.hs.length := by omega
    subst this
    rw [List.getD_eq_getElem?_getD, List.getD_eq_getElem?_getD, List.getElem?_append_right (Nat.le_refl _), List.getElem?_append_right (by rw [h.hl]; exact Nat.le_refl _), h.hl]
    simpa using hr
 have E1 : Ends p1.l := by rw [← hp1]; exact hE
 obtain ⟨h2, -, -⟩ := h1.take E1.ne 1 (by decide) [wTask]
 have E2 := take_ends E1 1 (by decide) [wTask]
 obtain ⟨h3, y3, -⟩ := h2.take E2.ne 1 (by decide) []
 have E3 := take_ends E2 1 (by decide) []
 obtain ⟨h4, y4⟩ := h3.nums E3 3
 have E4 := nums_ends 3 _ E3
 obtain ⟨h5, y5, -⟩ := h4.take E4.ne 1 (by decide) [wRetry, wBlock, wBackup]
 have E5 := take_ends E4 1 (by decide) [wRetry, wBlock, wBackup]
 obtain ⟨h6, y6⟩ := h5.nums E5 6
 have E6 := nums_ends 6 _ E5
 have h7 := h6.fin E6.ne
 unfold PS.one
 simp only [hp1, hq1, y3, y4, y5, y6]
 refine ⟨h7.l, h7.e, h7.ln, h7.b, ?_, h7.hl, h7.hs⟩
 have := h7.ts
 show _ ++ _ = _ ++ _
 rw [show ∀ x : PS, x.blank.ts = x.ts from fun _ => rfl] at this
 rw [this]
 rfl
theorem Sim.first (h : Sim p q) (hE : Ends p.l) : Sim p.first.blank q.first.blank ∧ RT p.first.bt q.first.bt := by
 obtain ⟨h1, -, -⟩ := h.take hE.ne 1 (by decide) [wBurst]
 have E1 := take_ends hE 1 (by decide) [wBurst]
 obtain ⟨p1, hp1⟩ : ∃ p1, (p.take 1 [wBurst]).1 = p1 := ⟨_, rfl⟩
 obtain ⟨q1, hq1⟩ : ∃ q1, (q.take 1 [wBurst]).1 = q1 := ⟨_, rfl⟩
 rw [hp1] at h1 E1
 rw [hq1] at h1
 have hr := h1.now E1.ne
 have h2 : Sim { p1 with bt := p1.now } { q1 with bt := q1.now } := ⟨h1.l, h1.e, h1.ln, h1.b, h1.ts, h1.hl, h1.hs⟩
 obtain ⟨h3, -, y3⟩ := h2.take (p := { p1 with bt := p1.now }) E1.ne 2 (by decide) []
 have E2 := take_ends (p := { p1 with bt := p1.now }) E1 2 (by decide) []
 obtain ⟨u, hu⟩ : ∃ u, ({ p1 with bt := p1.now } : PS).take 2 [] = u := ⟨_, rfl⟩
 obtain ⟨v, hv⟩ : ∃ v, ({ q1 with bt := q1.now } : PS).take 2 [] = v := ⟨_, rfl⟩
 have hub : u.1.bt = p1.now := by rw [← hu]; exact (take_hs _ 2 []).2.2.2
 have hvb : v.1.bt = q1.now := by rw [← hv]; exact (take_hs _ 2 []).2.2.2
 rw [hu, hv] at h3 y3
 rw [hu] at E2
 have ep : p.first = ({ u.1 with b := u.2.f2 } : PS).fin := by
  unfold PS.first PS.num
  simp only [hp1, hu]
 have eq : q.first = ({ v.1 with b := v.2.f2 } : PS).fin := by
  unfold PS.first PS.num
  simp only [hq1, hv]
 have h4 : Sim { u.1 with b := u.2.f2 } { v.1 with b := v.2.f2 } := ⟨h3.l, h3.e, h3.ln, y3, h3.ts, h3.hl, h3.hs⟩
 have fb : ∀ x : PS, x.fin.bt = x.bt := by
  intro x
  unfold PS.fin
  split
  ·rfl
  ·exact (take_hs _ 3 []).2.2.2
 rw [ep, eq]
 refine ⟨h4.fin E2.ne, ?_⟩
 rw [fb, fb]
 show RT u.1.bt v.1.bt
 rw [hub, hvb]; exact hr
theorem Sim.go : ∀ (n m : Nat) (p q : PS), Sim p q → RT p.bt q.bt → Ends p.l → p.l.length ≤ n → q.l.length ≤ m → Sim (PS.go n p) (PS.go m q) ∧ RT (PS.go n p).bt (PS.go m q).bt ∧ Ends (PS.go n p).l
 | 0, _, p, _, _, _, hE, hl, _ => absurd (List.eq_nil_of_length_eq_zero (Nat.le_zero.1 hl)) hE.ne
 | n + 1, m, p, q, h, hb, hE, hl, hm => by
  have hqn : q.l ≠ [] := by
   have := h.l
   intro e
   rw [e] at this
   obtain ⟨pl, hpl⟩ : ∃ pl, p.l = pl := ⟨_, rfl⟩
   rw [hpl] at this
   cases this
   exact hE.ne hpl
  obtain ⟨m, rfl⟩ : ∃ j, m = j + 1 := ⟨m - 1, by have := List.length_pos_iff.2 hqn; omega⟩
  have hr := h.now hE.ne
  rw [PS.go, PS.go, h.e, hr.1]
  by_cases hc : p.e = 0 ∧ p.now.f0 ≠ 4
  ·rw [if_pos hc, if_pos hc]
   have ho := h.one hE
   have hob : RT p.one.blank.bt q.one.blank.bt := by
    show RT p.one.bt q.one.bt
    rw [one_bt, one_bt]; exact hb
   by_cases hoe : p.one.e = 0
   ·have h2 := one_len p hE.ne hoe
    have h3 := blank_len p.one
    have h2' := one_len q hqn (ho.e.trans hoe)
    have h3' := blank_len q.one
    exact Sim.go n m _ _ ho hob (blank_ends (one_ends hE)) (by omega) (by omega)
   ·have hoe' : q.one.blank.e ≠ 0 := by rw [ho.e]; exact hoe
    rw [go_bad n p.one.blank hoe, go_bad m q.one.blank hoe']
    exact ⟨ho, hob, blank_ends (one_ends hE)⟩
  ·rw [if_neg hc, if_neg hc]
   exact ⟨h, hb, hE⟩
theorem Sim.wrong (h : Sim p q) (hb : RT p.bt q.bt) (hE : Ends p.l) (hl : p.hs.length = p.ts.length) : q.wrong.1 = p.wrong.1 ∧ (p.wrong.1 ≠ 0 → q.wrong.2.1 = 2 * p.wrong.2.1 + 1) := by
 unfold PS.wrong
 simp only
 rw [h.b, h.ts, h.hl]
 by_cases h0 : (whyS p.b p.ts).1 = 0
 ·rw [if_pos h0, if_pos h0]; exact ⟨rfl, fun h => absurd rfl h⟩
 ·rw [if_neg h0, if_neg h0]
  refine ⟨rfl, fun _ => ?_⟩
  rcases whyS_range p.b p.ts with h1 | h1 | ⟨h1, h2⟩ | ⟨h1, h2, h3⟩
  ·exact absurd h1 h0
  ·simp only [if_pos h1]; exact hb.2.2.2
  ·have hn1 : ¬ (whyS p.b p.ts).1 = 1 := by omega
   simp only [if_neg hn1, if_pos h1]
   by_cases h3 : 0 < p.hs.length
   ·rw [if_pos h3, if_pos h3]; exact (h.hs 16 (by omega)).2.2.2
   ·rw [if_neg h3, if_neg h3]; exact (h.now hE.ne).2.2.2
  ·have hn1 : ¬ (whyS p.b p.ts).1 = 1 := by omega
   have hn2 : ¬ (whyS p.b p.ts).1 = 2 := by omega
   simp only [if_neg hn1, if_neg hn2]
   exact (h.hs _ (by omega)).2.2.2
end
theorem Dbl.ends {l l' : List TOK} (h : Dbl l l') (hE : Ends l) : l' ≠ [] := by
 cases h with
 | nil => exact absurd rfl hE.ne
 | line => simp
 | other => simp
end Go.Proofs.YtddbkcfdfgehkaaDoor.Q

-- What the reference of chapter 6 reads, line by line: the same as the parser (no program in sight).
namespace Go.Proofs.YtddbkcfdfgehkaaDoor.Q
open Go.RowKit Go.Proofs.YtddbkcfdfgehkaaDoorW.PrintWords Go.Proofs.YtddbkcfdfgehkaaDoorW.PrintLast Go.Proofs.YtddbkcfdfgehkaaDoorW.PrintMore
attribute [local go_sem] max2_int min2_int max_two min_two max_three min_three max_four min_four   -- for this text's walks alone
set_option linter.unusedVariables false
set_option linter.unusedSimpArgs false

def fitT (q : Int × List ByteArray) (t : TOK) : Bool := (t.f0 == q.1) && (q.2.isEmpty || q.2.any (fun x => x.toList == t.f1.toList))
def endT (t : TOK) : Bool := (t.f0 == 3) || (t.f0 == 4)
/-- The first token that isn't what is asked. -/
def firstBad : List (TOK → Bool) → List TOK → Option Nat
 | c :: cs, t :: r => if c t = true then (firstBad cs r).map (· + 1) else some 0
 | _, _ => none
def PS.seq : List (Int × List ByteArray) → PS → PS
 | [], p => p
 | q :: qs, p => PS.seq qs (p.take q.1 q.2).1
def qT : List (Int × List ByteArray) := [(1, [wTask]), (1, []), (2, []), (2, []), (2, []), (1, [wRetry, wBlock, wBackup]), (2, []), (2, []), (2, []), (2, []), (2, []), (2, [])]
def qB : List (Int × List ByteArray) := [(1, [wBurst]), (2, [])]
def csT : List (TOK → Bool) := qT.map fitT ++ [endT]
def csB : List (TOK → Bool) := qB.map fitT ++ [endT]
theorem fits_fitT {p : PS} {t : TOK} {r : List TOK} (he : p.e = 0) (hl : p.l = t :: r) (k : Int) (tx : List ByteArray) : p.fits k tx = fitT (k, tx) t := by
 have hn : p.now = t := by unfold PS.now; rw [hl]; rfl
 unfold PS.fits fitT
 rw [he, hn]; rfl
theorem take_yes {p : PS} {t : TOK} {r : List TOK} (he : p.e = 0) (hl : p.l = t :: r) {k : Int} {tx : List ByteArray} (hf : fitT (k, tx) t = true) : p.take k tx = ({ p with l := r }, t) := by
 have hn : p.now = t := by unfold PS.now; rw [hl]; rfl
 unfold PS.take
 rw [if_pos (by rw [fits_fitT he hl]; exact hf), hn, hl]; rfl
theorem take_no {p : PS} {t : TOK} {r : List TOK} (he : p.e = 0) (hl : p.l = t :: r) {k : Int} {tx : List ByteArray} (hf : ¬ fitT (k, tx) t = true) : (p.take k tx).1 = { p with e := 5, ln := t.f3, cl := t.f4 } := by
 have hn : p.now = t := by unfold PS.now; rw [hl]; rfl
 unfold PS.take
 rw [if_neg (by rw [fits_fitT he hl]; exact hf)]
 unfold PS.fail
 rw [if_pos he, hn]
theorem seq_bad : ∀ (qs : List (Int × List ByteArray)) (p : PS), p.e ≠ 0 → PS.seq qs p = p
 | [], _, _ => rfl
 | q :: qs, p, h => by rw [PS.seq, take_bad p q.1 q.2 h]; exact seq_bad qs p h
theorem Ends.cons {l : List TOK} (h : Ends l) : ∃ t r, l = t :: r ∧ (t.f0 ≠ 4 → Ends r) := by
 cases l with
 | nil => exact absurd rfl h.ne
 | cons t r => exact ⟨t, r, rfl, fun hn => h.tail hn⟩
/-- A run of takes: all fit, or the first that doesn't is told. -/
theorem seq_spec : ∀ (qs : List (Int × List ByteArray)) (p : PS), p.e = 0 → Ends p.l → (∀ q ∈ qs, q.1 ≠ 4) →
  (∀ cs, firstBad (qs.map fitT ++ cs) p.l = (firstBad cs (p.l.drop qs.length)).map (· + qs.length)) ∧ PS.seq qs p = { p with l := p.l.drop qs.length } ∧ Ends (p.l.drop qs.length) ∧ (∀ i (h : i < qs.length), ∃ t, p.l[i]? = some t ∧ fitT qs[i] t = true) ∨
  ∃ j t, (∀ cs, firstBad (qs.map fitT ++ cs) p.l = some j) ∧ p.l[j]? = some t ∧ (PS.seq qs p).e = 5 ∧ (PS.seq qs p).ln = t.f3 ∧ (PS.seq qs p).cl = t.f4
 | [], p, he, hE, _ => .inl ⟨fun cs => by simp, rfl, hE, fun i h => absurd h (Nat.not_lt_zero i)⟩
 | q :: qs, p, he, hE, hq => by
  obtain ⟨t, r, hl, hr⟩ := hE.cons
  by_cases hf : fitT q t = true
  ·have ht4 : t.f0 ≠ 4 := by
    unfold fitT at hf
    simp at hf
    rw [hf.1]; exact hq q List.mem_cons_self
   have hs : PS.seq (q :: qs) p = PS.seq qs { p with l := r } := by rw [PS.seq, take_yes (k := q.1) (tx := q.2) he hl hf]
   rcases seq_spec qs { p with l := r } he (hr ht4) (fun x hx => hq x (List.mem_cons_of_mem _ hx)) with ⟨h1, h2, h3, h4⟩ | ⟨j, s, h1, h2, h3, h4, h5⟩
   ·left
    refine ⟨fun cs => ?_, ?_, ?_, fun i h => ?_⟩
    ·rw [hl, List.map_cons, List.cons_append, firstBad, if_pos hf, h1 cs, List.length_cons, List.drop_succ_cons, Option.map_map]
     congr 1
    ·rw [hs, h2, hl]; rfl
    ·rw [hl]; exact h3
    ·cases i with
     | zero => exact ⟨t, by rw [hl]; rfl, hf⟩
     | succ i =>
      obtain ⟨s, g1, g2⟩ := h4 i (by simpa using h)
      exact ⟨s, by rw [hl]; exact g1, g2⟩
   ·right
    refine ⟨j + 1, s, fun cs => ?_, by rw [hl]; exact h2, by rw [hs]; exact h3, by rw [hs]; exact h4, by rw [hs]; exact h5⟩
    rw [hl, List.map_cons, List.cons_append, firstBad, if_pos hf, h1 cs]; rfl
  ·right
   have hn := take_no (k := q.1) (tx := q.2) he hl hf
   have hs : PS.seq (q :: qs) p = { p with e := 5, ln := t.f3, cl := t.f4 } := by
    rw [PS.seq, hn]; exact seq_bad qs _ (by show (5 : Int) ≠ 0; decide)
   refine ⟨0, t, fun cs => ?_, by rw [hl]; rfl, by rw [hs], by rw [hs], by rw [hs]⟩
   rw [hl, List.map_cons, List.cons_append, firstBad, if_neg hf]
theorem nums_seq : ∀ (n : Nat) (p : PS), (PS.nums n p).1 = PS.seq (List.replicate n (2, [])) p
 | 0, _ => rfl
 | n + 1, p => by
  have key : ∀ (qs : List (Int × List ByteArray)) (q : Int × List ByteArray) (p : PS), PS.seq (qs ++ [q]) p = ((PS.seq qs p).take q.1 q.2).1 := by
   intro qs q
   induction qs with
   | nil => intro p; rfl
   | cons a qs ih => intro p; exact ih _
  rw [List.replicate_succ', key, ← nums_seq n p]; rfl
/-- The states of 'one', but for the task. -/
theorem one_seq (p : PS) : ∃ t, p.one = { (PS.seq qT { p with hs := p.hs ++ [p.now] }).fin with ts := (PS.seq qT { p with hs := p.hs ++ [p.now] }).fin.ts ++ [t] } := by
 obtain ⟨p1, hp1⟩ : ∃ p1 : PS, { p with hs := p.hs ++ [p.now] } = p1 := ⟨_, rfl⟩
 have h : PS.seq qT p1 = (PS.nums 6 ((PS.nums 3 ((p1.take 1 [wTask]).1.take 1 []).1).1.take 1 [wRetry, wBlock, wBackup]).1).1 := by
  rw [nums_seq, nums_seq]; rfl
 rw [hp1, h]
 unfold PS.one
 simp only [hp1]
 exact ⟨_, rfl⟩
def taskOf (l : List TOK) : TK := ⟨(l.getD 1 z46).f1, (l.getD 2 z46).f2, (l.getD 3 z46).f2, (l.getD 4 z46).f2, (l.getD 6 z46).f2, (l.getD 7 z46).f2, (l.getD 8 z46).f2, (l.getD 9 z46).f2, (l.getD 10 z46).f2, modeOf (l.getD 5 z46).f1, (l.getD 11 z46).f2⟩
theorem nums_yes : ∀ (n : Nat) (p : PS) (xs r : List TOK), p.e = 0 → p.l = xs ++ r → xs.length = n → (∀ x ∈ xs, x.f0 = 2) → PS.nums n p = ({ p with l := r }, xs.map (fun x => x.f2))
 | 0, p, xs, r, he, hl, hn, _ => by
  have : xs = [] := List.eq_nil_of_length_eq_zero hn
  subst this
  rw [List.nil_append] at hl
  subst hl; rfl
 | n + 1, p, xs, r, he, hl, hn, hx => by
  obtain ⟨ys, y, rfl⟩ : ∃ ys y, xs = ys ++ [y] := by
   have : xs ≠ [] := by rintro rfl; simp at hn
   exact ⟨xs.dropLast, xs.getLast this, (List.dropLast_concat_getLast this).symm⟩
  have hl2 : p.l = ys ++ (y :: r) := by rw [hl]; simp
  have ih := nums_yes n p ys (y :: r) he hl2 (by simpa using hn) (fun x h => hx x (by simp [h]))
  have h2 := take_yes (p := { p with l := y :: r }) (t := y) (r := r) (k := 2) (tx := []) he rfl (by unfold fitT; simp [hx y (by simp)])
  show ((PS.nums n p).1.num.1, (PS.nums n p).2 ++ [(PS.nums n p).1.num.2]) = _
  unfold PS.num
  rw [ih]
  simp only [h2, List.map_append, List.map_cons, List.map_nil]
theorem fit2 {q : TOK} (h : fitT (2, []) q = true) : q.f0 = 2 := by unfold fitT at h; simpa using h
/-- A line of a task that is as it must be. -/
theorem one_yes (p : PS) (he : p.e = 0) (x0 x1 x2 x3 x4 x5 x6 x7 x8 x9 x10 x11 : TOK) (r : List TOK) (hl : p.l = x0 :: x1 :: x2 :: x3 :: x4 :: x5 :: x6 :: x7 :: x8 :: x9 :: x10 :: x11 :: r)
  (h0 : fitT (1, [wTask]) x0 = true) (h1 : fitT (1, []) x1 = true) (h2 : fitT (2, []) x2 = true) (h3 : fitT (2, []) x3 = true) (h4 : fitT (2, []) x4 = true) (h5 : fitT (1, [wRetry, wBlock, wBackup]) x5 = true)
  (h6 : fitT (2, []) x6 = true) (h7 : fitT (2, []) x7 = true) (h8 : fitT (2, []) x8 = true) (h9 : fitT (2, []) x9 = true) (h10 : fitT (2, []) x10 = true) (h11 : fitT (2, []) x11 = true) :
  p.one = { ({ p with hs := p.hs ++ [x0], l := r } : PS).fin with ts := ({ p with hs := p.hs ++ [x0], l := r } : PS).fin.ts ++ [taskOf p.l] } := by
 have hn : p.now = x0 := by unfold PS.now; rw [hl]; rfl
 have e1 := take_yes (p := { p with hs := p.hs ++ [x0] }) he hl h0
 have e2 := take_yes (p := { p with hs := p.hs ++ [x0], l := x1 :: x2 :: x3 :: x4 :: x5 :: x6 :: x7 :: x8 :: x9 :: x10 :: x11 :: r }) he rfl h1
 have e3 := nums_yes 3 { p with hs := p.hs ++ [x0], l := x2 :: x3 :: x4 :: x5 :: x6 :: x7 :: x8 :: x9 :: x10 :: x11 :: r } [x2, x3, x4] (x5 :: x6 :: x7 :: x8 :: x9 :: x10 :: x11 :: r) he rfl rfl (fun x hx => by simp at hx; rcases hx with rfl | rfl | rfl <;> exact fit2 (by assumption))
 have e4 := take_yes (p := { p with hs := p.hs ++ [x0], l := x5 :: x6 :: x7 :: x8 :: x9 :: x10 :: x11 :: r }) he rfl h5
 have e5 := nums_yes 6 { p with hs := p.hs ++ [x0], l := x6 :: x7 :: x8 :: x9 :: x10 :: x11 :: r } [x6, x7, x8, x9, x10, x11] r he rfl rfl (fun x hx => by simp at hx; rcases hx with rfl | rfl | rfl | rfl | rfl | rfl <;> exact fit2 (by assumption))
 unfold PS.one
 rw [hn]
 simp only [e1, e2, e3, e4, e5]
 rw [hl]
 rfl
theorem first_yes (p : PS) (he : p.e = 0) (x0 x1 : TOK) (r : List TOK) (hl : p.l = x0 :: x1 :: r) (h0 : fitT (1, [wBurst]) x0 = true) (h1 : fitT (2, []) x1 = true) :
  p.first = ({ p with l := r, b := x1.f2, bt := x1 } : PS).fin := by
 have e1 := take_yes (p := p) he hl h0
 have e2 := take_yes (p := { p with l := x1 :: r, bt := x1 }) he rfl h1
 have hn : ({ p with l := x1 :: r } : PS).now = x1 := rfl
 unfold PS.first PS.num
 simp only [e1, hn, e2]
theorem first_seq (p : PS) : ∃ b bt, p.first = ({ PS.seq qB p with b := b, bt := bt } : PS).fin := by
 obtain ⟨q, hq⟩ : ∃ q, (p.take 1 [wBurst]).1 = q := ⟨_, rfl⟩
 have h : PS.seq qB p = (q.take 2 []).1 := by rw [← hq]; rfl
 have h2 : ∀ bt, (({ q with bt := bt } : PS).take 2 []).1 = { (q.take 2 []).1 with bt := bt } := by
  intro bt
  unfold PS.take PS.fail
  have : ({ q with bt := bt } : PS).fits 2 [] = q.fits 2 [] := rfl
  rw [this]
  split
  ·rfl
  ·show (if q.e = 0 then _ else _) = _
   by_cases h0 : q.e = 0
   ·rw [if_pos h0, if_pos h0]; rfl
   ·rw [if_neg h0, if_neg h0]
 refine ⟨(({ q with bt := q.now } : PS).take 2 []).2.f2, q.now, ?_⟩
 unfold PS.first PS.num
 simp only [hq]
 rw [h2, h]
end Go.Proofs.YtddbkcfdfgehkaaDoor.Q

-- The reference of chapter 6, by lines: what it tells is what the parser tells (no program in sight).
namespace Go.Proofs.YtddbkcfdfgehkaaDoor.Q
open Go.RowKit Go.Proofs.YtddbkcfdfgehkaaDoorW.PrintWords Go.Proofs.YtddbkcfdfgehkaaDoorW.PrintLast Go.Proofs.YtddbkcfdfgehkaaDoorW.PrintMore
attribute [local go_sem] max2_int min2_int max_two min_two max_three min_three max_four min_four   -- for this text's walks alone
set_option linter.unusedVariables false
set_option linter.unusedSimpArgs false

def EndsI (l : List TOK) : Prop := ∃ ys t, l = ys ++ [t] ∧ t.f0 = 4 ∧ ∀ x ∈ ys, x.f0 ≠ 4
theorem EndsI.ends {l : List TOK} (h : EndsI l) : Ends l := by
 obtain ⟨ys, t, h1, h2, _⟩ := h; exact ⟨ys, t, h1, h2⟩
theorem EndsI.cons {l : List TOK} (h : EndsI l) : ∃ t r, l = t :: r ∧ ((t.f0 = 4 ∧ r = []) ∨ (t.f0 ≠ 4 ∧ EndsI r)) := by
 obtain ⟨ys, t, rfl, h2, h3⟩ := h
 cases ys with
 | nil => exact ⟨t, [], rfl, .inl ⟨h2, rfl⟩⟩
 | cons y ys => exact ⟨y, ys ++ [t], rfl, .inr ⟨h3 y List.mem_cons_self, ys, t, rfl, h2, fun x hx => h3 x (List.mem_cons_of_mem _ hx)⟩⟩
theorem EndsI.drop {l : List TOK} : ∀ (n : Nat), EndsI l → Ends (l.drop n) → EndsI (l.drop n) := by
 rintro n ⟨ys, t, rfl, h2, h3⟩ hE
 rw [List.drop_append] at hE ⊢
 have hn : n - ys.length = 0 := by
  apply Nat.eq_zero_of_not_pos
  intro hp
  have : (ys.drop n ++ [t].drop (n - ys.length)) = [] := by
   rw [List.drop_eq_nil_of_le (by omega), List.drop_eq_nil_of_le (by simp; omega)]; rfl
  rw [this] at hE
  obtain ⟨r, s, h, _⟩ := hE
  simp at h
 rw [hn, List.drop_zero]
 exact ⟨ys.drop n, t, rfl, h2, fun x hx => h3 x (List.mem_of_mem_drop hx)⟩
/-- The length of the next line, with its end. -/
def lineLen : List TOK → Nat
 | [] => 0
 | t :: r => if 3 ≤ t.f0 then 1 else lineLen r + 1
theorem lineLen_at : ∀ (n : Nat) (l : List TOK) (t : TOK), l[n]? = some t → 3 ≤ t.f0 → (∀ i, i < n → ∀ x, l[i]? = some x → x.f0 < 3) → lineLen l = n + 1
 | 0, t :: r, s, h, h3, _ => by
  have : t = s := by simpa using h
  subst this
  rw [lineLen, if_pos h3]
 | n + 1, t :: r, s, h, h3, hi => by
  have h0 := hi 0 (by omega) t rfl
  rw [lineLen, if_neg (by omega), lineLen_at n r s (by simpa using h) h3 (fun i hl x hx => hi (i + 1) (by omega) x (by simpa using hx))]
 | n, [], s, h, _, _ => by simp at h
/-- What a state tells at the end. -/
def fin5 (q : PS) : Int × List TK × Int × Int × Int :=
 let r := if q.e = 0 then q.wrong else (q.e, q.ln, q.cl)
 if r.1 = 0 then (q.b, q.ts, 0, 0, 0) else (0, [], r)
theorem fin5_bad (q : PS) (h : q.e ≠ 0) : fin5 q = (0, [], q.e, q.ln, q.cl) := by
 unfold fin5
 simp only [if_neg h]
/-- What the reference tells at the end of the text. -/
def refEnd (p : PS) (t : TOK) : Int × List TK × Int × Int × Int :=
 let w := whyS p.b p.ts
 if w.1 = 0 then (p.b, p.ts, 0, 0, 0) else
 let s := if w.1 = 1 then p.bt else if w.1 = 2 then (if 0 < p.hs.length then p.hs.getD 16 z46 else t) else p.hs.getD w.2.toNat z46
 (0, [], 1, s.f3, s.f4)
theorem refEnd_fin (p : PS) (he : p.e = 0) : fin5 p = refEnd p p.now := by
 unfold fin5 refEnd PS.wrong
 simp only [if_pos he]
 by_cases h : (whyS p.b p.ts).1 = 0
 ·simp only [if_pos h, if_true]
 ·simp only [if_neg h]
  rw [if_neg (by decide)]
/-- The reference's loop. -/
def refGo : Nat → PS → Nat → Int × List TK × Int × Int × Int
 | 0, _, _ => (0, [], 0, 0, 0)
 | f + 1, p, n =>
  let last := p.l.getD (lineLen p.l - 1) z46
  let rest := p.l.drop (lineLen p.l)
  if lineLen p.l = 1 ∧ (last.f0 = 3 ∨ 0 < n) then (if last.f0 = 4 then refEnd p last else refGo f { p with l := rest } n)
  else match firstBad (if n = 0 then csB else csT) p.l with
   | some j => (0, [], 5, (p.l.getD j z46).f3, (p.l.getD j z46).f4)
   | none =>
    let r2 := if last.f0 = 4 then [last] else rest
    if n = 0 then refGo f { p with l := r2, b := (p.l.getD 1 z46).f2, bt := p.l.getD 1 z46 } 1
    else refGo f { p with l := r2, hs := p.hs ++ [p.l.getD 0 z46], ts := p.ts ++ [taskOf p.l] } (n + 1)
theorem blank_now {p : PS} {t : TOK} {r : List TOK} (hl : p.l = t :: r) (h : t.f0 ≠ 3) : p.blank = p := by
 unfold PS.blank
 rw [hl, List.dropWhile_cons, if_neg (by simpa using h), ← hl]
theorem blank_skip {p : PS} {t : TOK} {r : List TOK} (hl : p.l = t :: r) (h : t.f0 = 3) : p.blank = ({ p with l := r } : PS).blank := by
 unfold PS.blank
 rw [hl, List.dropWhile_cons, if_pos (by simpa using h)]
/-- The end of a line. -/
theorem fin_at {p : PS} {s : TOK} {r : List TOK} (he : p.e = 0) (hl : p.l = s :: r) : (endT s = true → p.fin = { p with l := if s.f0 = 4 then s :: r else r }) ∧ (endT s = false → p.fin = { p with e := 5, ln := s.f3, cl := s.f4 }) := by
 have hn : p.now = s := by unfold PS.now; rw [hl]; rfl
 constructor
 ·intro h
  unfold PS.fin
  rw [hn]
  by_cases h4 : s.f0 = 4
  ·rw [if_pos ⟨he, h4⟩, if_pos h4, ← hl]
  ·rw [if_neg (fun hh => h4 hh.2), if_neg h4, take_yes he hl (by unfold fitT; unfold endT at h; simp [h4] at h; simp [h])]
 ·intro h
  unfold endT at h
  simp at h
  unfold PS.fin
  rw [hn, if_neg (fun hh => h.2 hh.2), take_no he hl (by unfold fitT; simp [h.1])]
theorem firstBad_end (s : TOK) (r : List TOK) : firstBad [endT] (s :: r) = if endT s = true then none else some 0 := by
 unfold firstBad
 split
 ·cases r <;> rfl
 ·rfl
theorem endT_iff (s : TOK) : endT s = true ↔ s.f0 = 3 ∨ s.f0 = 4 := by unfold endT; simp
theorem gets_app : ∀ (xs l : List TOK), (∀ i, i < xs.length → l[i]? = xs[i]?) → l = xs ++ l.drop xs.length
 | [], l, _ => rfl
 | x :: xs, [], h => by have h0 := h 0 (by simp); simp at h0
 | x :: xs, a :: l, h => by
  have h0 := h 0 (by simp)
  have h0 : a = x := by simpa using h0
  subst h0
  have ih := gets_app xs l (fun i hi => by have := h (i + 1) (by simpa using hi); simpa using this)
  rw [List.length_cons, List.drop_succ_cons, List.cons_append, ← ih]
theorem fit_kind {q : Int × List ByteArray} {t : TOK} (h : fitT q t = true) : t.f0 = q.1 := by
 unfold fitT at h; simp at h; exact h.1
theorem refGo_eq : ∀ (f : Nat) (p : PS) (n m : Nat), p.e = 0 → EndsI p.l → (∀ x ∈ p.l, x.f0 ≤ 4) → p.l.length < f → p.l.length ≤ m →
  refGo f p n = fin5 (if n = 0 then PS.go m p.blank.first.blank else PS.go m p.blank)
 | 0, p, n, m, _, _, _, h, _ => absurd h (Nat.not_lt_zero _)
 | f + 1, p, n, m, he, hE, hE4, hf, hm => by
  obtain ⟨t, r, hl, hr⟩ := hE.cons
  have hn : p.now = t := by unfold PS.now; rw [hl]; rfl
  by_cases h3 : t.f0 = 3
  ·have hr2 : EndsI r := by
    rcases hr with ⟨h, _⟩ | ⟨_, h⟩
    ·omega
    ·exact h
   have hL : lineLen p.l = 1 := by rw [hl, lineLen, if_pos (by omega)]
   have hg : p.l.getD 0 z46 = t := by rw [hl]; rfl
   have hd : p.l.drop 1 = r := by rw [hl]; rfl
   rw [refGo]
   simp only [hL, Nat.sub_self, hg, hd]
   rw [if_pos ⟨trivial, .inl h3⟩, if_neg (by omega)]
   rw [refGo_eq f { p with l := r } n m he hr2 (fun x hx => hE4 x (by rw [hl]; exact List.mem_cons_of_mem _ hx)) (by rw [hl] at hf; simpa using hf) (by rw [hl] at hm; exact Nat.le_of_succ_le (by simpa using hm)), blank_skip hl h3]
  by_cases h4 : t.f0 = 4 ∧ 0 < n
  ·have hL : lineLen p.l = 1 := by rw [hl, lineLen, if_pos (by omega)]
   have hg : p.l.getD 0 z46 = t := by rw [hl]; rfl
   rw [refGo]
   simp only [hL, Nat.sub_self, hg]
   rw [if_pos ⟨trivial, .inr h4.2⟩, if_pos h4.1, if_neg (by omega), blank_now hl h3, go_done _ _ (fun hh => hh.2 (by rw [hn]; exact h4.1)), refEnd_fin p he, hn]
  ·have hc : ¬ (lineLen p.l = 1 ∧ ((p.l.getD (lineLen p.l - 1) z46).f0 = 3 ∨ 0 < n)) := by
    rintro ⟨h1, h2⟩
    rw [h1, hl] at h2
    simp only [Nat.sub_self, List.getD_cons_zero] at h2
    rw [hl, lineLen] at h1
    by_cases h34 : 3 ≤ t.f0
    ·rcases h2 with h2 | h2
     ·exact h3 h2
     ·by_cases h5 : t.f0 = 4
      ·exact h4 ⟨h5, h2⟩
      ·have := hE4 t (by rw [hl]; exact List.mem_cons_self)
       omega
    ·rw [if_neg h34] at h1
     obtain ⟨t2, r2, hr2, _⟩ := (hr.resolve_left (fun h => by omega)).2.cons
     rw [hr2, lineLen] at h1
     split at h1 <;> omega
   rw [refGo]
   simp only []
   rw [if_neg hc, blank_now hl h3]
   by_cases hn0 : n = 0
   ·subst hn0
    simp only [if_true]
    obtain ⟨b, bt, hfs⟩ := first_seq p
    rcases seq_spec qB p he hE.ends (by decide) with ⟨g1, g2, g3, g4⟩ | ⟨j, s, g1, g2, g3, g4, g5⟩
    ·obtain ⟨x0, e0, f0⟩ := g4 0 (by decide)
     obtain ⟨x1, e1, f1⟩ := g4 1 (by decide)
     obtain ⟨s, r', hs, hs'⟩ := (hE.drop _ g3).cons
     have hs : p.l.drop 2 = s :: r' := hs
     have hp : p.l = x0 :: x1 :: s :: r' := by
      have h := gets_app [x0, x1] p.l (fun i hi => by match i, hi with | 0, _ => exact e0 | 1, _ => exact e1)
      rw [h]; show [x0, x1] ++ p.l.drop 2 = _; rw [hs]; rfl
     have hq : firstBad csB p.l = (firstBad [endT] (s :: r')).map (· + 2) := by
      rw [show csB = qB.map fitT ++ [endT] from rfl, g1]; show (firstBad [endT] (p.l.drop 2)).map (· + 2) = _; rw [hs]
     have k0 : x0.f0 = 1 := fit_kind f0
     have k1 : x1.f0 = 2 := fit_kind f1
     by_cases hE2 : endT s = true
     ·have hL : lineLen p.l = 3 := by
       rw [hp, lineLen, if_neg (by omega), lineLen, if_neg (by omega), lineLen, if_pos (by rcases (endT_iff s).1 hE2 with h | h <;> omega)]
      have hg2 : p.l.getD (lineLen p.l - 1) z46 = s := by rw [hL, hp]; rfl
      have hg1 : p.l.getD 1 z46 = x1 := by rw [hp]; rfl
      have hd3 : p.l.drop (lineLen p.l) = r' := by rw [hL, hp]; rfl
      rw [hq, firstBad_end, if_pos hE2]
      simp only [Option.map_none, hg2, hg1, hd3, if_true]
      have hfin := (fin_at (p := ({ p with l := s :: r', b := x1.f2, bt := x1 } : PS)) he rfl).1 hE2
      rw [first_yes p he x0 x1 (s :: r') hp f0 f1, hfin]
      have hr4 : (if s.f0 = 4 then s :: r' else r') = (if s.f0 = 4 then [s] else r') := by
       split
       ·rename_i h4
        rcases hs' with ⟨_, h⟩ | ⟨h, _⟩
        ·rw [h]
        ·exact absurd h4 h
       ·rfl
      show _ = fin5 (PS.go m ({ p with l := if s.f0 = 4 then s :: r' else r', b := x1.f2, bt := x1 } : PS).blank)
      rw [hr4]
      have hpl : p.l.length = 3 + r'.length := by rw [hp]; simp; omega
      have hll : (if s.f0 = 4 then [s] else r').length ≤ 1 + r'.length := by split <;> simp <;> omega
      rw [refGo_eq f { p with l := if s.f0 = 4 then [s] else r', b := x1.f2, bt := x1 } 1 m he ?_ ?_ ?_ ?_]
      ·rw [if_neg (by decide)]
      ·show EndsI (if s.f0 = 4 then [s] else r')
       split
       ·rename_i h4; exact ⟨[], s, rfl, h4, fun x hx => by simp at hx⟩
       ·rename_i h4; exact (hs'.resolve_left (fun h => h4 h.1)).2
      ·intro x hx
       have hx : x ∈ (if s.f0 = 4 then [s] else r') := hx
       refine hE4 x ?_
       rw [hp]
       split at hx
       ·simp at hx; simp [hx]
       ·simp [hx]
      ·show (if s.f0 = 4 then [s] else r').length < f
       omega
      ·show (if s.f0 = 4 then [s] else r').length ≤ m
       omega
     ·have hE2 : endT s = false := by simpa using hE2
      rw [hq, firstBad_end, if_neg (by rw [hE2]; decide)]
      have hg2 : p.l.getD 2 z46 = s := by rw [hp]; rfl
      simp only [Option.map_some, if_true, Nat.zero_add, hg2]
      rw [hfs, g2]
      have hfin := (fin_at (p := ({ p with l := p.l.drop 2, b := b, bt := bt } : PS)) he hs).2 hE2
      show _ = fin5 (PS.go m (({ p with l := p.l.drop 2, b := b, bt := bt } : PS)).fin.blank)
      rw [hfin]
      have hb5 : (({ p with l := p.l.drop 2, b := b, bt := bt, e := 5, ln := s.f3, cl := s.f4 } : PS)).blank.e ≠ 0 := by show (5 : Int) ≠ 0; decide
      rw [go_bad _ _ hb5, fin5_bad _ hb5]; rfl
    ·rw [show csB = qB.map fitT ++ [endT] from rfl, g1]
     simp only [if_true]
     have hg : p.l.getD j z46 = s := by rw [List.getD_eq_getElem?_getD, g2]; rfl
     have he5 : (({ PS.seq qB p with b := b, bt := bt } : PS)).e ≠ 0 := by show (PS.seq qB p).e ≠ 0; rw [g3]; decide
     rw [hg, hfs, fin_bad _ he5]
     have hb5 : (({ PS.seq qB p with b := b, bt := bt } : PS)).blank.e ≠ 0 := he5
     rw [go_bad _ _ hb5, fin5_bad _ hb5]
     show _ = (0, [], (PS.seq qB p).e, (PS.seq qB p).ln, (PS.seq qB p).cl)
     rw [g3, g4, g5]
   ·obtain ⟨m, rfl⟩ : ∃ m', m = m' + 1 := by
     have hlen : p.l.length = r.length + 1 := by rw [hl]; rfl
     exact ⟨m - 1, by omega⟩
    have hn4 : p.now.f0 ≠ 4 := by rw [hn]; exact fun h => h4 ⟨h, by omega⟩
    have hgo : PS.go (m + 1) p = PS.go m p.one.blank := by rw [PS.go, if_pos ⟨he, hn4⟩]
    simp only [if_neg hn0]
    rw [hgo]
    obtain ⟨p1, hp1⟩ : ∃ p1 : PS, { p with hs := p.hs ++ [p.now] } = p1 := ⟨_, rfl⟩
    have hp1l : p1.l = p.l := by rw [← hp1]
    have hp1e : p1.e = 0 := by rw [← hp1]; exact he
    obtain ⟨tt, hone⟩ := one_seq p
    rw [hp1] at hone
    rcases seq_spec qT p1 hp1e (by rw [hp1l]; exact hE.ends) (by decide) with ⟨g1, g2, g3, g4⟩ | ⟨j, s, g1, g2, g3, g4, g5⟩
    ·rw [hp1l] at g1 g2 g3
     obtain ⟨x0, e0, f0⟩ := g4 0 (by decide)
     obtain ⟨x1, e1, f1⟩ := g4 1 (by decide)
     obtain ⟨x2, e2, f2⟩ := g4 2 (by decide)
     obtain ⟨x3, e3, f3⟩ := g4 3 (by decide)
     obtain ⟨x4, e4, f4⟩ := g4 4 (by decide)
     obtain ⟨x5, e5, f5⟩ := g4 5 (by decide)
     obtain ⟨x6, e6, f6⟩ := g4 6 (by decide)
     obtain ⟨x7, e7, f7⟩ := g4 7 (by decide)
     obtain ⟨x8, e8, f8⟩ := g4 8 (by decide)
     obtain ⟨x9, e9, f9⟩ := g4 9 (by decide)
     obtain ⟨x10, e10, f10⟩ := g4 10 (by decide)
     obtain ⟨x11, e11, f11⟩ := g4 11 (by decide)
     rw [hp1l] at e0 e1 e2 e3 e4 e5 e6 e7 e8 e9 e10 e11
     obtain ⟨s, r', hs, hs'⟩ := (hE.drop _ g3).cons
     have hs : p.l.drop 12 = s :: r' := hs
     have hp : p.l = x0 :: x1 :: x2 :: x3 :: x4 :: x5 :: x6 :: x7 :: x8 :: x9 :: x10 :: x11 :: s :: r' := by
      have h := gets_app [x0, x1, x2, x3, x4, x5, x6, x7, x8, x9, x10, x11] p.l (fun i hi => by match i, hi with | 0, _ => exact e0 | 1, _ => exact e1 | 2, _ => exact e2 | 3, _ => exact e3 | 4, _ => exact e4 | 5, _ => exact e5 | 6, _ => exact e6 | 7, _ => exact e7 | 8, _ => exact e8 | 9, _ => exact e9 | 10, _ => exact e10 | 11, _ => exact e11)
      rw [h]; show [x0, x1, x2, x3, x4, x5, x6, x7, x8, x9, x10, x11] ++ p.l.drop 12 = _; rw [hs]; rfl
     have hq : firstBad csT p.l = (firstBad [endT] (s :: r')).map (· + 12) := by
      rw [show csT = qT.map fitT ++ [endT] from rfl, g1]; show (firstBad [endT] (p.l.drop 12)).map (· + 12) = _; rw [hs]
     have k0 : x0.f0 ≤ 2 := by rw [fit_kind f0]; decide
     have k1 : x1.f0 ≤ 2 := by rw [fit_kind f1]; decide
     have k2 : x2.f0 ≤ 2 := by rw [fit_kind f2]; decide
     have k3 : x3.f0 ≤ 2 := by rw [fit_kind f3]; decide
     have k4 : x4.f0 ≤ 2 := by rw [fit_kind f4]; decide
     have k5 : x5.f0 ≤ 2 := by rw [fit_kind f5]; decide
     have k6 : x6.f0 ≤ 2 := by rw [fit_kind f6]; decide
     have k7 : x7.f0 ≤ 2 := by rw [fit_kind f7]; decide
     have k8 : x8.f0 ≤ 2 := by rw [fit_kind f8]; decide
     have k9 : x9.f0 ≤ 2 := by rw [fit_kind f9]; decide
     have k10 : x10.f0 ≤ 2 := by rw [fit_kind f10]; decide
     have k11 : x11.f0 ≤ 2 := by rw [fit_kind f11]; decide
     by_cases hE2 : endT s = true
     ·have hL : lineLen p.l = 13 := by
       rw [hp]
       simp only [lineLen]
       rw [if_neg (by omega), if_neg (by omega), if_neg (by omega), if_neg (by omega), if_neg (by omega), if_neg (by omega), if_neg (by omega), if_neg (by omega), if_neg (by omega), if_neg (by omega), if_neg (by omega), if_neg (by omega), if_pos (by rcases (endT_iff s).1 hE2 with h | h <;> omega)]
      have hg2 : p.l.getD (lineLen p.l - 1) z46 = s := by rw [hL, hp]; rfl
      have hg1 : p.l.getD 0 z46 = x0 := by rw [hp]; rfl
      have hd3 : p.l.drop (lineLen p.l) = r' := by rw [hL, hp]; rfl
      rw [hq, firstBad_end, if_pos hE2]
      simp only [Option.map_none, hg2, hg1, hd3]
      have hfin := (fin_at (p := ({ p with hs := p.hs ++ [x0], l := s :: r' } : PS)) he rfl).1 hE2
      rw [one_yes p he x0 x1 x2 x3 x4 x5 x6 x7 x8 x9 x10 x11 (s :: r') hp f0 f1 f2 f3 f4 f5 f6 f7 f8 f9 f10 f11, hfin]
      have hr4 : (if s.f0 = 4 then s :: r' else r') = (if s.f0 = 4 then [s] else r') := by
       split
       ·rename_i h4
        rcases hs' with ⟨_, h⟩ | ⟨h, _⟩
        ·rw [h]
        ·exact absurd h4 h
       ·rfl
      show _ = fin5 (PS.go m ({ p with l := if s.f0 = 4 then s :: r' else r', hs := p.hs ++ [x0], ts := p.ts ++ [taskOf p.l] } : PS).blank)
      rw [hr4]
      have hpl : p.l.length = 13 + r'.length := by rw [hp]; simp; omega
      have hll : (if s.f0 = 4 then [s] else r').length ≤ 1 + r'.length := by split <;> simp <;> omega
      rw [refGo_eq f { p with l := if s.f0 = 4 then [s] else r', hs := p.hs ++ [x0], ts := p.ts ++ [taskOf p.l] } (n + 1) m he ?_ ?_ ?_ ?_]
      ·rw [if_neg (by omega)]
      ·show EndsI (if s.f0 = 4 then [s] else r')
       split
       ·rename_i h4; exact ⟨[], s, rfl, h4, fun x hx => by simp at hx⟩
       ·rename_i h4; exact (hs'.resolve_left (fun h => h4 h.1)).2
      ·intro x hx
       have hx : x ∈ (if s.f0 = 4 then [s] else r') := hx
       refine hE4 x ?_
       rw [hp]
       split at hx
       ·simp at hx; simp [hx]
       ·simp [hx]
      ·show (if s.f0 = 4 then [s] else r').length < f
       omega
      ·show (if s.f0 = 4 then [s] else r').length ≤ m
       omega
     ·have hE2 : endT s = false := by simpa using hE2
      rw [hq, firstBad_end, if_neg (by rw [hE2]; decide)]
      have hg2 : p.l.getD 12 z46 = s := by rw [hp]; rfl
      simp only [Option.map_some, Nat.zero_add, hg2]
      rw [hone, g2]
      have hfin := (fin_at (p := ({ p1 with l := p.l.drop 12 } : PS)) hp1e hs).2 hE2
      rw [show List.length qT = 12 from rfl, hfin]
      have hb5 : (({ ({ p1 with l := p.l.drop 12, e := 5, ln := s.f3, cl := s.f4 } : PS) with ts := p1.ts ++ [tt] } : PS)).blank.e ≠ 0 := by show (5 : Int) ≠ 0; decide
      refine Eq.trans ?_ (congrArg fin5 (go_bad m _ hb5)).symm
      rw [fin5_bad _ hb5]; rfl
    ·rw [show csT = qT.map fitT ++ [endT] from rfl, ← hp1l, g1]
     have hg : p1.l.getD j z46 = s := by rw [List.getD_eq_getElem?_getD, g2]; rfl
     simp only [hg]
     have he5 : (PS.seq qT p1).e ≠ 0 := by rw [g3]; decide
     rw [hone, fin_bad _ he5]
     have hb5 : (({ PS.seq qT p1 with ts := (PS.seq qT p1).ts ++ [tt] } : PS)).blank.e ≠ 0 := he5
     refine Eq.trans ?_ (congrArg fin5 (go_bad m _ hb5)).symm
     rw [fin5_bad _ hb5]
     show _ = (0, [], (PS.seq qT p1).e, (PS.seq qT p1).ln, (PS.seq qT p1).cl)
     rw [g3, g4, g5]
end Go.Proofs.YtddbkcfdfgehkaaDoor.Q

-- The next line of a text, as the reference takes it: walked by hand (a part of what is given).
namespace Go.Proofs.YtddbkcfdfgehkaaDoor.Q
open Go.RowKit Go.Proofs.YtddbkcfdfgehkaaDoorW.PrintWords Go.Proofs.YtddbkcfdfgehkaaDoorW.PrintLast Go.Proofs.YtddbkcfdfgehkaaDoorW.PrintMore
attribute [local go_sem] max2_int min2_int max_two min_two max_three min_three max_four min_four   -- for this text's walks alone
set_option linter.unusedVariables false
set_option linter.unusedSimpArgs false

attribute [local go_sem] tok_f0 tok_f1 tok_f2 tok_f3 tok_f4
def pendulumref06_line.f (l : List TOK) : Option (List TOK) := some (l.take (lineLen l))
theorem lineLen_le : ∀ l : List TOK, lineLen l ≤ l.length
 | [] => Nat.le_refl _
 | t :: r => by have := lineLen_le r; rw [lineLen]; split <;> simp <;> omega
theorem lineLen_drop (l : List TOK) (i : Nat) (hi : i < l.length) : lineLen (l.drop i) = if 3 ≤ (l.getD i z46).f0 then 1 else lineLen (l.drop (i + 1)) + 1 := by
 have hd : l.drop i = l[i] :: l.drop (i + 1) := List.drop_eq_getElem_cons hi
 have hg : l.getD i z46 = l[i] := by simp [List.getD_eq_getElem?_getD, List.getElem?_eq_getElem hi]
 rw [hd, lineLen, hg]
set_option maxHeartbeats 2000000 in
set_option maxRecDepth 100000 in
theorem pendulumref06_line.calls (A : Option Addr) (c : Nat) (l r : List TOK) (w : World) (hr : Kd.C k46 w A l.length l) (hc : l.length ≤ c) (hm : l.length ≤ 1000000) (h : pendulumref06_line.f l = some r) :
  Calls Tryd.prog 23 #[.slice A l.length c] w fun e w' => e = .returned (.slice A r.length c) ∧ Below w.heap.size w w' := by
 have H2 := Aside0.mk (Option.some.inj h)
 have HC := Aside0.mk hr
 have HK := Aside0.mk hc
 have HM := Aside0.mk hm
 clear hr h hc hm
 go_enter Tryd.func23, Tryd.ntmps23
 go_wp2
 go_loopg [3] l.length (fun kk v3 wr => ∃ x : Int, v3 = .int .i64 x ∧ Aside0 (0 ≤ x ∧ x.toNat + kk = l.length ∧ x.toNat + lineLen (l.drop x.toNat) = lineLen l) ∧ Aside0 (Below w.heap.size w wr))
 case atStart => exact ⟨0, rfl, ⟨Int.le_refl _, by simp, by simp⟩, ⟨Below.refl _ _⟩⟩
 case round =>
  obtain ⟨x, rfl, HX, HB⟩ := hrel
  have hx := HX.out
  by_cases hlt : x < (l.length : Int)
  ·have c2 : decide (x < (l.length : Int)) = true := decide_eq_true hlt
   have c3 : decide (0 ≤ x) = true := decide_eq_true hx.1
   obtain ⟨ad, e1, y0, y1, y2, y3, y4⟩ := at_T46 (Kd.C_below HC.out HB.out) x hx.1 hlt
   cases e1
   obtain ⟨j, hj⟩ : ∃ j : Int, x + 1 = j := ⟨_, rfl⟩
   have hw : IntKind.i64.wrap (x + 1) = j := by
    have := HM.out
    rw [← hj]; exact (i64_w _).trans (wrap_ok1 (by omega) (by omega))
   have hstep := lineLen_drop l x.toNat (by omega)
   have hrd : rd_T46 l x = l.getD x.toNat z46 := rfl
   rw [← hrd] at hstep
   have HS := Aside0.mk hstep
   have HJ := Aside0.mk hj
   have HLT := Aside0.mk hlt
   have p0 := eq_true hx.1
   have p1 := eq_true hlt
   by_cases h3 : 3 ≤ (rd_T46 l x).f0
   ·have c4 : decide (3 ≤ (rd_T46 l x).f0) = true := decide_eq_true h3
    rw [if_pos h3] at hstep
    have hj0 : 0 ≤ j := by omega
    have hj1 : j ≤ (l.length : Int) := by omega
    have c6b0 := eq_true hj0
    have c6b1 : decide (0 ≤ j) = true := decide_eq_true hj0
    have c7b0 := eq_true hj1
    have c7b1 : decide (j ≤ (l.length : Int)) = true := decide_eq_true hj1
    obtain ⟨i09, hi09, _, hsz9, _⟩ := info_parts info46
    have hcut9 := cut_to (P := Tryd.prog) 41 46 .i64 Tryd.underlying41 hi09 (some ad) l.length c j hj0 hj1 HK.out
    have hn : j.toNat = lineLen l := by have := hx.2.2; omega
    have hrl : r.length = lineLen l := by rw [← H2.out, List.length_take]; have := lineLen_le l; omega
    rw [hn, ← hrl] at hcut9
    clear h3 hlt hj hstep hrd hx hj0 hj1 hn hrl hi09 hsz9
    go_wp2
    go_ret
    exact ⟨rfl, HB.out⟩
   ·have c4 : decide (3 ≤ (rd_T46 l x).f0) = false := decide_eq_false h3
    have h3b := Aside0.mk h3
    clear h3 hlt hj hstep hrd hx
    go_wp2
    go_roundg (l.length - (x.toNat + 1))
    case measure => have := HX.out; have := HLT.out; omega
    case rel =>
     refine ⟨j, rfl, ⟨?_, ?_, ?_⟩, HB⟩
     ·have := HX.out.1; have := HJ.out; omega
     ·have := HX.out; have := HJ.out; have := HLT.out; omega
     ·have h1 := HX.out
      have h2 := HS.out
      have h4 := HJ.out
      rw [if_neg (by have := h3b.out; omega)] at h2
      rw [show j.toNat = x.toNat + 1 by omega]
      omega
  ·have c2 : decide (x < (l.length : Int)) = false := decide_eq_false hlt
   have hr : r.length = l.length := by
    have h1 : x.toNat = l.length := by omega
    have h2 := hx.2.2
    rw [h1, List.drop_length] at h2
    rw [← H2.out, List.length_take, ← h2]
    show min (l.length + 0) _ = _
    omega
   clear hlt hx
   go_wp2
   go_ret
   rw [hr]
   exact ⟨rfl, HB.out⟩
end Go.Proofs.YtddbkcfdfgehkaaDoor.Q

-- The reference's lines and shapes, as the plain functions tell them.
namespace Go.Proofs.YtddbkcfdfgehkaaDoor.Q
open Go.RowKit Go.Proofs.YtddbkcfdfgehkaaDoorW.PrintWords Go.Proofs.YtddbkcfdfgehkaaDoorW.PrintLast Go.Proofs.YtddbkcfdfgehkaaDoorW.PrintMore
attribute [local go_sem] max2_int min2_int max_two min_two max_three min_three max_four min_four   -- for this text's walks alone
set_option linter.unusedVariables false
set_option linter.unusedSimpArgs false

theorem toList_lit2 (s : ByteArray) (l : List UInt8) : (s.toList = l) ↔ s = ⟨l.toArray⟩ := by
 rw [Lib.toList_data]
 constructor
 ·intro h
  cases s with
  | mk d => rw [← h]
 ·intro h; rw [h]
theorem ref_mode2 (s : ByteArray) : pendulumref06_Mode.f s = some (modeOf s) := by
 unfold pendulumref06_Mode.f modeOf wRetry wBlock wBackup
 simp only [toList_lit2]
 repeat' split
 all_goals rfl
def kindT : List Int := [1, 1, 2, 2, 2, 1, 2, 2, 2, 2, 2, 2, 3]
def kindB : List Int := [1, 2, 3]
/-- The token at i isn't what is asked. -/
def badB (x : List TOK) (ks : List Int) (i : Nat) : Bool :=
 let t := x.getD i z46
 ((if t.f0 = 4 then 3 else t.f0) != ks.getD i 0) || (i == 0 && rd ks 1 == 2 && !(t.f1.toList == wBurst.toList)) || (i == 0 && rd ks 1 == 1 && !(t.f1.toList == wTask.toList)) || (i == 5 && modeOf t.f1 == 0)
theorem shape_step (x : List TOK) (ks : List Int) (i k : Nat) (hi : i < x.length) (hj : i < ks.length) (h1 : 1 < ks.length) (hx : x.length ≤ 1000000) : pendulumref06_shape.l0 (k + 2) x ks (i : Int) = if badB x ks i = true then some (i : Int) else pendulumref06_shape.l0 k x ks ((i + 1 : Nat) : Int) := by
 have hw : wrap64 ((i : Int) + 1) = ((i + 1 : Nat) : Int) := by rw [wrap_ok1 (by omega) (by omega)]; rfl
 have hr : rd_T46 x (i : Int) = x.getD i z46 := rfl
 have hr0 : i = 0 → rd_T46 x 0 = x.getD i z46 := by rintro rfl; rfl
 have hr5 : i = 5 → rd_T46 x 5 = x.getD i z46 := by rintro rfl; rfl
 have hk : rd ks (i : Int) = ks.getD i 0 := by unfold rd; rw [Int.toNat_natCast]
 have hb : ([98, 117, 114, 115, 116] : List UInt8) = wBurst.toList := ((toList_lit2 wBurst _).2 rfl).symm
 have ht : ([116, 97, 115, 107] : List UInt8) = wTask.toList := ((toList_lit2 wTask _).2 rfl).symm
 unfold badB
 obtain ⟨t, hT⟩ : ∃ t, x.getD i z46 = t := ⟨_, rfl⟩
 obtain ⟨kd, hK⟩ : ∃ kd, ks.getD i 0 = kd := ⟨_, rfl⟩
 obtain ⟨k1, hK1⟩ : ∃ k1, rd ks 1 = k1 := ⟨_, rfl⟩
 rw [hT] at hr hr0 hr5
 rw [hK] at hk
 simp only [hT, hK, hK1]
 rw [pendulumref06_shape.l0, if_pos (by omega), decide_eq_true (by omega), pendulumref06_shape.j1, if_pos rfl, if_pos (by omega), if_pos (by omega)]
 simp only [hr, hk, hK1, hw, hb, ht, ref_mode2, Option.bind_some]
 have c1 : (i : Int) < (ks.length : Int) := by omega
 have c2 : (1 : Int) < (ks.length : Int) := by omega
 by_cases e0 : i = 0
 ·have e5 : ¬ i = 5 := by omega
  have g0 : (i : Int) = 0 := by omega
  have g5 : ¬ (i : Int) = 5 := by omega
  have g6 : (0 : Int) < (x.length : Int) := by omega
  have b0 : (i == 0) = true := by simp [e0]
  have b5 : (i == 5) = false := by simp [e5]
  simp only [if_pos c1, if_pos c2, if_pos g0, if_neg g5, if_pos g6, hr0 e0, b0, b5, Bool.true_and, Bool.false_and, Bool.or_false]
  by_cases a1 : t.f0 = 4 <;> by_cases a2 : k1 = 2 <;> by_cases a3 : k1 = 1 <;> by_cases a4 : t.f1.toList = wBurst.toList <;> by_cases a5 : t.f1.toList = wTask.toList <;>
   by_cases a6 : (if t.f0 = 4 then 3 else t.f0) = kd <;> simp_all
 ·have g0 : ¬ (i : Int) = 0 := by omega
  have b0 : (i == 0) = false := by simp [e0]
  simp only [if_pos c1, if_neg g0, b0, Bool.false_and, Bool.or_false, Bool.false_or]
  by_cases e5 : i = 5
  ·have g5 : (i : Int) = 5 := by omega
   have g6 : (5 : Int) < (x.length : Int) := by omega
   have b5 : (i == 5) = true := by simp [e5]
   simp only [if_pos g5, if_pos g6, hr5 e5, b5, Bool.true_and]
   by_cases a1 : t.f0 = 4 <;> by_cases a2 : modeOf t.f1 = 0 <;> by_cases a6 : (if t.f0 = 4 then 3 else t.f0) = kd <;> simp_all
  ·have g5 : ¬ (i : Int) = 5 := by omega
   have b5 : (i == 5) = false := by simp [e5]
   simp only [if_neg g5, b5, Bool.false_and, Bool.or_false]
   by_cases a1 : t.f0 = 4 <;> by_cases a6 : (if t.f0 = 4 then 3 else t.f0) = kd <;> simp_all
/-- What the shape tells of tests. -/
def encS : Option Nat → Nat → Int
 | none, _ => -1
 | some j, i => ((i + j : Nat) : Int)
theorem shape_run (x : List TOK) (ks : List Int) (cs : List (TOK → Bool)) (h1 : 1 < ks.length) (hx : x.length ≤ 1000000) (hc : cs.length = ks.length)
  (hp : ∀ i (h : i < cs.length), i < x.length → badB x ks i = !(cs[i] (x.getD i z46)))
  (hin : ∀ i, i + 1 < ks.length → i < x.length → badB x ks i = false → i + 1 < x.length) : ∀ (d i k : Nat), i + d = ks.length → 2 * d + 2 ≤ k → (i < x.length ∨ d = 0) →
  pendulumref06_shape.l0 k x ks (i : Int) = some (encS (firstBad (cs.drop i) (x.drop i)) i)
 | 0, i, k, hd, hk, _ => by
  obtain ⟨k, rfl⟩ : ∃ m, k = m + 2 := ⟨k - 2, by omega⟩
  rw [List.drop_of_length_le (by omega : cs.length ≤ i)]
  have e : firstBad [] (x.drop i) = none := by cases x.drop i <;> rfl
  rw [e, pendulumref06_shape.l0]
  split
  ·rw [decide_eq_false (by omega), pendulumref06_shape.j1, if_neg (by decide)]; rfl
  ·rw [pendulumref06_shape.j1, if_neg (by decide)]; rfl
 | d + 1, i, k, hd, hk, hix => by
  obtain ⟨k, rfl⟩ : ∃ m, k = m + 2 := ⟨k - 2, by omega⟩
  have hi : i < x.length := by omega
  have hj : i < cs.length := by omega
  have hdx : x.drop i = x[i] :: x.drop (i + 1) := List.drop_eq_getElem_cons hi
  have hdc : cs.drop i = cs[i] :: cs.drop (i + 1) := List.drop_eq_getElem_cons hj
  have hg : x.getD i z46 = x[i] := by simp [List.getD_eq_getElem?_getD, List.getElem?_eq_getElem hi]
  rw [shape_step x ks i k hi (by omega) h1 hx, hp i hj hi, hg, hdx, hdc, firstBad]
  by_cases hb : cs[i] x[i] = true
  ·rw [hb, if_neg (by decide), if_pos rfl, shape_run x ks cs h1 hx hc hp hin d (i + 1) k (by omega) (by omega) ?_]
   ·cases firstBad (cs.drop (i + 1)) (x.drop (i + 1)) with
    | none => rfl
    | some j => show some (((i + 1 + j : Nat)) : Int) = some ((i + (j + 1) : Nat) : Int); congr 2; omega
   ·by_cases h0 : d = 0
    ·exact .inr h0
    ·refine .inl (hin i (by omega) hi ?_)
     rw [hp i hj hi, hg, hb]; rfl
  ·rw [if_neg hb, if_pos (by simpa using hb)]; rfl
theorem toList_iff (a b : ByteArray) : a.toList = b.toList ↔ a = b := by
 constructor
 ·intro h
  rw [toList_lit2] at h
  rw [h, Lib.toList_data]
 ·intro h; rw [h]
theorem mode_any (s : ByteArray) : (modeOf s == 0) = !([wRetry, wBlock, wBackup].any (fun y => y.toList == s.toList)) := by
 have e1 : ∀ y : ByteArray, (y.toList == s.toList) = decide (s = y) := fun y => by
  by_cases h : s = y
  ·rw [h]; simp
  ·rw [decide_eq_false h]; exact beq_eq_false_iff_ne.2 (fun hh => h ((toList_iff y s).1 hh).symm)
 simp only [List.any_cons, List.any_nil, e1, Bool.or_false]
 unfold modeOf
 have n1 : ¬ wBlock = wRetry := by decide
 have n2 : ¬ wBackup = wRetry := by decide
 have n3 : ¬ wBackup = wBlock := by decide
 by_cases h1 : s = wRetry
 ·simp [h1]
 ·by_cases h2 : s = wBlock
  ·simp [h2, n1]
  ·by_cases h3 : s = wBackup
   ·simp [h3, n2, n3]
   ·simp [h1, h2, h3]
theorem kind_ne (t : TOK) (k : Int) (hk : k = 1 ∨ k = 2) : ((if t.f0 = 4 then 3 else t.f0) != k) = !(t.f0 == k) := by
 by_cases h : t.f0 = 4
 ·rw [if_pos h, h]; rcases hk with rfl | rfl <;> rfl
 ·rw [if_neg h]; rfl
theorem kind_end (t : TOK) : ((if t.f0 = 4 then 3 else t.f0) != 3) = !(endT t) := by
 unfold endT
 by_cases h : t.f0 = 4
 ·rw [if_pos h, h]; rfl
 ·have h4 : (t.f0 == 4) = false := beq_eq_false_iff_ne.2 h
  rw [if_neg h, h4, Bool.or_false]; rfl
theorem badT (x : List TOK) : ∀ i (h : i < csT.length), i < x.length → badB x kindT i = !(csT[i] (x.getD i z46)) := by
 intro i h hx
 obtain ⟨t, hT⟩ : ∃ t, x.getD i z46 = t := ⟨_, rfl⟩
 have h13 : i < 13 := h
 unfold badB
 simp only [hT]
 have e2 : (rd kindT 1 == 2) = false := rfl
 have e1 : (rd kindT 1 == 1) = true := rfl
 match i, h13 with
 | 0, _ =>
  show ((if t.f0 = 4 then 3 else t.f0) != 1 || _ || _ || _) = !(fitT (1, [wTask]) t)
  rw [kind_ne t 1 (.inl rfl), e1, e2]
  unfold fitT
  have hc : (t.f1.toList == wTask.toList) = (wTask.toList == t.f1.toList) := Bool.beq_comm
  rw [hc]
  simp only [List.isEmpty_cons, List.any_cons, List.any_nil, Bool.or_false, Bool.false_or]
  generalize (wTask.toList == t.f1.toList) = q
  generalize (t.f0 == 1) = z
  cases z <;> cases q <;> rfl
 | 5, _ =>
  show ((if t.f0 = 4 then 3 else t.f0) != 1 || _ || _ || _) = !(fitT (1, [wRetry, wBlock, wBackup]) t)
  rw [kind_ne t 1 (.inl rfl)]
  unfold fitT
  have hm := mode_any t.f1
  simp only [List.isEmpty_cons, Bool.false_or]
  generalize [wRetry, wBlock, wBackup].any (fun y => y.toList == t.f1.toList) = q at hm ⊢
  rw [hm]
  cases t.f0 == 1 <;> cases q <;> rfl
 | 12, _ =>
  show ((if t.f0 = 4 then 3 else t.f0) != 3 || _ || _ || _) = !(endT t)
  rw [kind_end]
  cases endT t <;> rfl
 | 1, _ => show ((if t.f0 = 4 then 3 else t.f0) != 1 || _ || _ || _) = !(fitT (1, []) t); rw [kind_ne t 1 (.inl rfl)]; unfold fitT; cases t.f0 == 1 <;> rfl
 | 2, _ => show ((if t.f0 = 4 then 3 else t.f0) != 2 || _ || _ || _) = !(fitT (2, []) t); rw [kind_ne t 2 (.inr rfl)]; unfold fitT; cases t.f0 == 2 <;> rfl
 | 3, _ => show ((if t.f0 = 4 then 3 else t.f0) != 2 || _ || _ || _) = !(fitT (2, []) t); rw [kind_ne t 2 (.inr rfl)]; unfold fitT; cases t.f0 == 2 <;> rfl
 | 4, _ => show ((if t.f0 = 4 then 3 else t.f0) != 2 || _ || _ || _) = !(fitT (2, []) t); rw [kind_ne t 2 (.inr rfl)]; unfold fitT; cases t.f0 == 2 <;> rfl
 | 6, _ => show ((if t.f0 = 4 then 3 else t.f0) != 2 || _ || _ || _) = !(fitT (2, []) t); rw [kind_ne t 2 (.inr rfl)]; unfold fitT; cases t.f0 == 2 <;> rfl
 | 7, _ => show ((if t.f0 = 4 then 3 else t.f0) != 2 || _ || _ || _) = !(fitT (2, []) t); rw [kind_ne t 2 (.inr rfl)]; unfold fitT; cases t.f0 == 2 <;> rfl
 | 8, _ => show ((if t.f0 = 4 then 3 else t.f0) != 2 || _ || _ || _) = !(fitT (2, []) t); rw [kind_ne t 2 (.inr rfl)]; unfold fitT; cases t.f0 == 2 <;> rfl
 | 9, _ => show ((if t.f0 = 4 then 3 else t.f0) != 2 || _ || _ || _) = !(fitT (2, []) t); rw [kind_ne t 2 (.inr rfl)]; unfold fitT; cases t.f0 == 2 <;> rfl
 | 10, _ => show ((if t.f0 = 4 then 3 else t.f0) != 2 || _ || _ || _) = !(fitT (2, []) t); rw [kind_ne t 2 (.inr rfl)]; unfold fitT; cases t.f0 == 2 <;> rfl
 | 11, _ => show ((if t.f0 = 4 then 3 else t.f0) != 2 || _ || _ || _) = !(fitT (2, []) t); rw [kind_ne t 2 (.inr rfl)]; unfold fitT; cases t.f0 == 2 <;> rfl
theorem badBu (x : List TOK) : ∀ i (h : i < csB.length), i < x.length → badB x kindB i = !(csB[i] (x.getD i z46)) := by
 intro i h hx
 obtain ⟨t, hT⟩ : ∃ t, x.getD i z46 = t := ⟨_, rfl⟩
 have h13 : i < 3 := h
 unfold badB
 simp only [hT]
 have e2 : (rd kindB 1 == 2) = true := rfl
 have e1 : (rd kindB 1 == 1) = false := rfl
 match i, h13 with
 | 0, _ =>
  show ((if t.f0 = 4 then 3 else t.f0) != 1 || _ || _ || _) = !(fitT (1, [wBurst]) t)
  rw [kind_ne t 1 (.inl rfl), e1, e2]
  unfold fitT
  have hc : (t.f1.toList == wBurst.toList) = (wBurst.toList == t.f1.toList) := Bool.beq_comm
  rw [hc]
  simp only [List.isEmpty_cons, List.any_cons, List.any_nil, Bool.or_false, Bool.false_or]
  generalize (wBurst.toList == t.f1.toList) = q
  generalize (t.f0 == 1) = z
  cases z <;> cases q <;> rfl
 | 1, _ => show ((if t.f0 = 4 then 3 else t.f0) != 2 || _ || _ || _) = !(fitT (2, []) t); rw [kind_ne t 2 (.inr rfl)]; unfold fitT; cases t.f0 == 2 <;> rfl
 | 2, _ =>
  show ((if t.f0 = 4 then 3 else t.f0) != 3 || _ || _ || _) = !(endT t)
  rw [kind_end]
  cases endT t <;> rfl
/-- The line's tokens before its end are words and numbers. -/
theorem lineLen_in : ∀ (l : List TOK), EndsI l → ∀ i, i < lineLen l → (l.getD i z46).f0 < 3 → i + 1 < lineLen l
 | [], h, _, _, _ => by obtain ⟨ys, t, h, _⟩ := h; simp at h
 | t :: r, h, i, hi, h3 => by
  rw [lineLen] at hi ⊢
  obtain ⟨t', r', hl, hr⟩ := h.cons
  obtain ⟨rfl, rfl⟩ := List.cons.inj hl
  by_cases ht : 3 ≤ t.f0
  ·rw [if_pos ht] at hi ⊢
   have : i = 0 := by omega
   subst this
   simp only [List.getD_cons_zero] at h3
   omega
  ·rw [if_neg ht] at hi ⊢
   have hE : EndsI r := (hr.resolve_left (fun h => by omega)).2
   cases i with
   | zero =>
    obtain ⟨t2, r2, rfl, _⟩ := hE.cons
    rw [lineLen]; split <;> omega
   | succ i =>
    rw [List.getD_cons_succ] at h3
    have := lineLen_in r hE i (by omega) h3
    omega
theorem lineLen_le2 : ∀ l : List TOK, lineLen l ≤ l.length
 | [] => Nat.le_refl _
 | t :: r => by have := lineLen_le2 r; rw [lineLen]; split <;> simp <;> omega
theorem firstBad_take : ∀ (cs : List (TOK → Bool)) (l : List TOK) (n : Nat), (∀ j, firstBad cs l = some j → j < n) → firstBad cs (l.take n) = firstBad cs l
 | [], l, n, _ => by cases l <;> cases n <;> rfl
 | c :: cs, [], n, _ => by cases n <;> rfl
 | c :: cs, t :: r, 0, h => by
  have e : firstBad (c :: cs) (t :: r) = none := by
   cases hq : firstBad (c :: cs) (t :: r) with
   | none => rfl
   | some j => exact absurd (h j hq) (Nat.not_lt_zero _)
  rw [e]; rfl
 | c :: cs, t :: r, n + 1, h => by
  rw [List.take_succ_cons, firstBad, firstBad]
  by_cases hc : c t = true
  ·rw [if_pos hc, if_pos hc, firstBad_take cs r n (fun j hj => by
    have := h (j + 1) (by rw [firstBad, if_pos hc, hj]; rfl)
    omega)]
  ·rw [if_neg hc, if_neg hc]
/-- The first bad token lies in the line. -/
theorem firstBad_line : ∀ (cs : List (TOK → Bool)) (l : List TOK), EndsI l → (∀ i (h : i < cs.length), i + 1 < cs.length → ∀ t, cs[i] t = true → t.f0 < 3) → ∀ j, firstBad cs l = some j → j < lineLen l
 | [], l, _, _, j, h => by cases l <;> simp [firstBad] at h
 | c :: cs, [], hE, _, _, _ => by obtain ⟨ys, t, h, _⟩ := hE; simp at h
 | c :: cs, t :: r, hE, hc, j, h => by
  rw [firstBad] at h
  rw [lineLen]
  by_cases hct : c t = true
  ·rw [if_pos hct] at h
   cases hq : firstBad cs r with
   | none => rw [hq] at h; cases h
   | some i =>
    rw [hq] at h
    have hj : i + 1 = j := Option.some.inj h
    have hne : cs ≠ [] := by rintro rfl; cases r <;> simp [firstBad] at hq
    have hpos : 0 < cs.length := List.length_pos_iff.2 hne
    have h3 : t.f0 < 3 := hc 0 (by simp) (by simp; omega) t hct
    obtain ⟨t', r', hl, hr⟩ := hE.cons
    obtain ⟨rfl, rfl⟩ := List.cons.inj hl
    have hE2 : EndsI r := (hr.resolve_left (fun h => by omega)).2
    have := firstBad_line cs r hE2 (fun i h1 h2 t ht => hc (i + 1) (by simp; omega) (by simp; omega) t ht) i hq
    rw [if_neg (by omega)]
    omega
  ·rw [if_neg hct] at h
   have hj : 0 = j := Option.some.inj h
   split <;> omega
theorem csT_in : ∀ i (h : i < csT.length), i + 1 < csT.length → ∀ t, csT[i] t = true → t.f0 < 3 := by
 intro i h h2 t ht
 have h12 : i < 12 := by have : csT.length = 13 := rfl; omega
 have hq : i < qT.length := h12
 have e : csT[i] = fitT qT[i] := by
  clear ht h2
  match i, h12, h, hq with
  | 0, _, _, _ => rfl
  | 1, _, _, _ => rfl
  | 2, _, _, _ => rfl
  | 3, _, _, _ => rfl
  | 4, _, _, _ => rfl
  | 5, _, _, _ => rfl
  | 6, _, _, _ => rfl
  | 7, _, _, _ => rfl
  | 8, _, _, _ => rfl
  | 9, _, _, _ => rfl
  | 10, _, _, _ => rfl
  | 11, _, _, _ => rfl
 rw [e] at ht
 rw [fit_kind ht]
 have : ∀ q ∈ qT, q.1 < 3 := by decide
 exact this _ (List.getElem_mem _)
theorem csB_in : ∀ i (h : i < csB.length), i + 1 < csB.length → ∀ t, csB[i] t = true → t.f0 < 3 := by
 intro i h h2 t ht
 have h12 : i < 2 := by have : csB.length = 3 := rfl; omega
 have hq : i < qB.length := h12
 have e : csB[i] = fitT qB[i] := by
  clear ht h2
  match i, h12, h, hq with
  | 0, _, _, _ => rfl
  | 1, _, _, _ => rfl
 rw [e] at ht
 rw [fit_kind ht]
 have : ∀ q ∈ qB, q.1 < 3 := by decide
 exact this _ (List.getElem_mem _)
theorem shape_of (ks : List Int) (cs : List (TOK → Bool)) (h1 : 1 < ks.length) (hk : ks.length ≤ 13) (hc : cs.length = ks.length)
  (hp : ∀ (x : List TOK) i (h : i < cs.length), i < x.length → badB x ks i = !(cs[i] (x.getD i z46)))
  (hin : ∀ i (h : i < cs.length), i + 1 < cs.length → ∀ t, cs[i] t = true → t.f0 < 3) (l : List TOK) (hE : EndsI l) (hl : l.length ≤ 1000000) :
  pendulumref06_shape.f 40 (l.take (lineLen l)) ks = some (encS (firstBad cs l) 0) := by
 have hle := lineLen_le2 l
 have hlen : (l.take (lineLen l)).length = lineLen l := by rw [List.length_take]; omega
 have hpos : 0 < lineLen l := by
  obtain ⟨t, r, rfl, _⟩ := hE.cons
  rw [lineLen]; split <;> omega
 have h := shape_run (l.take (lineLen l)) ks cs h1 (by omega) hc (hp _) (fun i hi hx hb => by
  rw [hlen] at hx ⊢
  have hic : i < cs.length := by omega
  rw [hp _ i hic (by omega)] at hb
  have hg : (l.take (lineLen l)).getD i z46 = l.getD i z46 := by
   rw [List.getD_eq_getElem?_getD, List.getD_eq_getElem?_getD, List.getElem?_take, if_pos hx]
  rw [hg] at hb
  exact lineLen_in l hE i hx (hin i hic (by omega) _ (by simpa using hb))) ks.length 0 40 (by omega) (by omega) (.inl (by omega))
 rw [List.drop_zero, List.drop_zero, firstBad_take cs l _ (firstBad_line cs l hE hin)] at h
 exact h
theorem shape_T (l : List TOK) (hE : EndsI l) (hl : l.length ≤ 1000000) : pendulumref06_shape.f 40 (l.take (lineLen l)) kindT = some (encS (firstBad csT l) 0) :=
 shape_of kindT csT (by decide) (by decide) rfl badT csT_in l hE hl
theorem shape_B (l : List TOK) (hE : EndsI l) (hl : l.length ≤ 1000000) : pendulumref06_shape.f 40 (l.take (lineLen l)) kindB = some (encS (firstBad csB l) 0) :=
 shape_of kindB csB (by decide) (by decide) rfl badBu csB_in l hE hl
end Go.Proofs.YtddbkcfdfgehkaaDoor.Q

-- The reference of chapter 6 at a line: its memory, what is known of it, and what a line makes of it.
namespace Go.Proofs.YtddbkcfdfgehkaaDoor.Q
open Go.RowKit Go.Proofs.YtddbkcfdfgehkaaDoorW.PrintWords Go.Proofs.YtddbkcfdfgehkaaDoorW.PrintLast Go.Proofs.YtddbkcfdfgehkaaDoorW.PrintMore
attribute [local go_sem] max2_int min2_int max_two min_two max_three min_three max_four min_four   -- for this text's walks alone
set_option linter.unusedVariables false
set_option linter.unusedSimpArgs false

def tokCs (t : TOK) : Array Value := #[.int .i64 t.f0, .string t.f1, .int .i64 t.f2, .int .i64 t.f3, .int .i64 t.f4]
/-- The reference's memory at a line. -/
def RefX (w0 W : World) (A : Option Addr) (c : Nat) (vts vhs : Value) (p : PS) : Prop :=
 W.heap[w0.heap.size]? = some (.cells #[.int .i64 p.b, vts] 26 (0, 0)) ∧
 W.heap[w0.heap.size + 1]? = some (.cells (tokCs p.bt) 46 (0, 0)) ∧
 p.l.length ≤ c ∧ Kd.C k46 W A p.l.length p.l ∧
 Kd.R k40 40 W w0.heap.size (fun k => k ≠ w0.heap.size ∧ k ≠ w0.heap.size + 1) vts p.ts ∧
 Kd.R k46 46 W w0.heap.size (fun k => k ≠ w0.heap.size ∧ k ≠ w0.heap.size + 1) vhs p.hs ∧
 Below w0.heap.size w0 W
/-- What is known of the state at a line. -/
def RefK (w0 : World) (A : Option Addr) (kk : Nat) (p : PS) (n : Nat) (r : Int × List TK × Int × Int × Int) : Prop :=
 p.e = 0 ∧ EndsI p.l ∧ (∀ x ∈ p.l, x.f0 ≤ 4) ∧ p.l.length < kk ∧ refGo kk p n = r ∧ p.hs.length = p.ts.length ∧ p.hs.length + p.l.length ≤ 100001 ∧ n + p.l.length ≤ 100003 ∧
 (Kd.C k46 w0 A p.l.length p.l ∨ ∃ t, p.l = [t] ∧ t.f0 = 4 ∧ 0 < n)
theorem lexJ (l : List Int) (h : (lexToks l).2.1 = 0) : EndsI (lexToks l).1 ∧ ∀ x ∈ (lexToks l).1, x.f0 ≤ 4 := by
 obtain ⟨ys, L, C, h1, -, -, -, h5⟩ := (lexI l).1 h
 constructor
 ·exact ⟨ys, _, h1, rfl, fun x hx => by have := (h5 x hx).2; omega⟩
 ·intro x hx
  rw [h1, List.mem_append] at hx
  rcases hx with hx | hx
  ·have := (h5 x hx).2; omega
  ·rw [List.mem_singleton] at hx; rw [hx]; show (4 : Int) ≤ 4; omega
theorem RefK.skip {w0 : World} {A A' : Option Addr} {k n : Nat} {p : PS} {r : Int × List TK × Int × Int × Int} (h : RefK w0 A (k + 1) p n r) (h1 : lineLen p.l = 1) (h3 : (p.l.getD 0 z46).f0 = 3)
  (hC : Kd.C k46 w0 A p.l.length p.l → Kd.C k46 w0 A' (p.l.drop 1).length (p.l.drop 1)) : RefK w0 A' k { p with l := p.l.drop 1 } n r := by
 obtain ⟨he, hE, h4, hl, hg, hh, hs, hn, hc⟩ := h
 obtain ⟨t, q, hlq, hq⟩ := hE.cons
 have ht : t.f0 = 3 := by rw [hlq] at h3; exact h3
 have hE2 : EndsI q := (hq.resolve_left (fun h => by omega)).2
 have hd : p.l.drop 1 = q := by rw [hlq]; rfl
 have hlen : (p.l.drop 1).length = p.l.length - 1 := List.length_drop
 have hpos : 0 < p.l.length := by rw [hlq]; simp
 refine ⟨he, by show EndsI (p.l.drop 1); rw [hd]; exact hE2, fun x hx => h4 x (List.mem_of_mem_drop hx), by show (p.l.drop 1).length < k; omega, ?_, hh, by show p.hs.length + (p.l.drop 1).length ≤ _; omega, by show n + (p.l.drop 1).length ≤ _; omega, ?_⟩
 ·rw [← hg, refGo]
  simp only [h1, Nat.sub_self]
  rw [if_pos ⟨trivial, .inl h3⟩, if_neg (by omega)]
 ·rcases hc with hc | ⟨s, hs, hs4, _⟩
  ·exact .inl (hC hc)
  ·rw [hlq] at hs
   obtain ⟨rfl, _⟩ := List.cons.inj hs
   omega
theorem RefX.next {w0 W : World} {A A' : Option Addr} {c c' : Nat} {vts vhs : Value} {p : PS} {l' : List TOK} (h : RefX w0 W A c vts vhs p) (o : Obj) (hC : Kd.C k46 W A' l'.length l') (hc : l'.length ≤ c') : RefX w0 (W.alloc o) A' c' vts vhs { p with l := l' } := by
 obtain ⟨h1, h2, h3, h4, h5, h6, h7⟩ := h
 exact ⟨blk_alloc h1 _, blk_alloc h2 _, hc, Kd.C_alloc hC _, Kd.R_alloc h5 _, Kd.R_alloc h6 _, below_alloc h7 _⟩
/-- A literal of numbers. -/
theorem C_lit_i64 (W : World) (m : Nat) (hm : W.heap.size = m) (l : List Int) (hl : l.length ≤ 1000) (cs : Array Value) (fr : Nat × Nat) (hcs : cs = (l.map (Value.int .i64)).toArray) : Kd.C (Kd.int .i64) (W.alloc (.cells cs 3 fr)) (some ⟨m, 0, none⟩) l.length l := by
 subst hm
 refine Kd.C_of_reads (d := (0 : Int)) (h1 := fun _ => rfl) ⟨rfl, by omega, fun _ => ⟨_, rfl, fun j hj => ?_⟩⟩
 have hb : (W.alloc (.cells cs 3 fr)).heap[W.heap.size]? = some (.cells cs 3 fr) := blk_new _ _
 have e : (⟨W.heap.size, 0, none⟩ : Addr).add j = ⟨W.heap.size, j, none⟩ := by unfold Addr.add; split <;> simp_all
 rw [e, cell_of_row _ _ _ _ _ _ hb, hcs]
 simp [List.getElem?_eq_getElem hj, List.getD_eq_getElem?_getD]
theorem RefX.below {w0 W W' : World} {A : Option Addr} {c : Nat} {vts vhs : Value} {p : PS} (h : RefX w0 W A c vts vhs p) (hb : Below W.heap.size W W') : RefX w0 W' A c vts vhs p := by
 obtain ⟨h1, h2, h3, h4, h5, h6, h7⟩ := h
 exact ⟨blk_below h1 hb, blk_below h2 hb, h3, Kd.C_below h4 hb, Kd.R_below h5 hb, Kd.R_below h6 hb, below_step h7 hb⟩
/-- A line longer than one: its text is not the end alone. -/
theorem RefK.old {w0 : World} {A : Option Addr} {k n : Nat} {p : PS} {r : Int × List TK × Int × Int × Int} (h : RefK w0 A k p n r) (h1 : lineLen p.l ≠ 1) : Kd.C k46 w0 A p.l.length p.l := by
 rcases h.2.2.2.2.2.2.2.2 with hc | ⟨s, hs, h4, _⟩
 ·exact hc
 ·exfalso; apply h1; rw [hs, lineLen, if_pos (by omega)]
theorem RefK.old0 {w0 : World} {A : Option Addr} {k : Nat} {p : PS} {r : Int × List TK × Int × Int × Int} (h : RefK w0 A k p 0 r) : Kd.C k46 w0 A p.l.length p.l := by
 rcases h.2.2.2.2.2.2.2.2 with hc | ⟨_, _, _, h0⟩
 ·exact hc
 ·exact absurd h0 (Nat.lt_irrefl 0)
/-- A literal of one token. -/
theorem C_lit_tok (W : World) (m : Nat) (hm : W.heap.size = m) (t : TOK) : Kd.C k46 (W.alloc (.cells (tokCs t) 46 (0, 0))) (some ⟨m, 0, none⟩) [t].length [t] := by
 subst hm
 have hb : (W.alloc (.cells (tokCs t) 46 (0, 0))).heap[W.heap.size]? = some (.cells (tokCs t) 46 (0, 0)) := blk_new _ _
 have e : ∀ j, (⟨W.heap.size, 0, none⟩ : Addr).add j = ⟨W.heap.size, j, none⟩ := fun j => by unfold Addr.add; split <;> simp_all
 refine ⟨rfl, by simp, fun _ => ⟨_, rfl, fun j p hj => ⟨(tokCs t).toList, rfl, ?_, fun i u hu => ?_⟩⟩⟩
 ·obtain ⟨rfl, rfl⟩ : j = 0 ∧ p = t := by
   cases j with
   | zero => exact ⟨rfl, by simpa using hj.symm⟩
   | succ j => simp at hj
  exact k46_mk _ p
 ·obtain ⟨rfl, rfl⟩ : j = 0 ∧ p = t := by
   cases j with
   | zero => exact ⟨rfl, by simpa using hj.symm⟩
   | succ j => simp at hj
  show (W.alloc (.cells (tokCs p) 46 (0, 0))).cell? ((⟨W.heap.size, 0, none⟩ : Addr).add (0 * 5 + i)) = some u
  rw [e, blk_cell hb, Nat.zero_mul, Nat.zero_add, ← Array.getElem?_toList]
  exact hu
/-- The reference's memory within a line: the set, the first token, the line's last. -/
def RefY (w0 W : World) (g ge : Nat) (t : TOK) (vts vhs : Value) (p : PS) : Prop :=
 W.heap[g]? = some (.cells #[.int .i64 p.b, vts] 26 (0, 0)) ∧
 W.heap[g + 1]? = some (.cells (tokCs p.bt) 46 (0, 0)) ∧
 W.heap[ge]? = some (.cells (tokCs t) 46 (0, 0)) ∧
 Kd.R k40 40 W w0.heap.size (fun k => k ≠ g ∧ k ≠ g + 1 ∧ k ≠ ge) vts p.ts ∧
 Kd.R k46 46 W w0.heap.size (fun k => k ≠ g ∧ k ≠ g + 1 ∧ k ≠ ge) vhs p.hs ∧
 Below w0.heap.size w0 W
section
variable {w0 W W' : World} {g ge : Nat} {t : TOK} {vts vhs : Value} {p : PS}
theorem RefY.below (h : RefY w0 W g ge t vts vhs p) (hb : Below W.heap.size W W') : RefY w0 W' g ge t vts vhs p := by
 obtain ⟨h1, h2, h3, h4, h5, h6⟩ := h
 exact ⟨blk_below h1 hb, blk_below h2 hb, blk_below h3 hb, Kd.R_below h4 hb, Kd.R_below h5 hb, below_step h6 hb⟩
theorem RefY.fresh (h : RefY w0 W g ge t vts vhs p) : ∀ k, W.heap.size ≤ k → k ≠ g ∧ k ≠ g + 1 ∧ k ≠ ge := fun k hk => by
 have h1 := blk_lt h.1
 have h2 := blk_lt h.2.1
 have h3 := blk_lt h.2.2.1
 exact ⟨by omega, by omega, by omega⟩
theorem RefY.drew (h : RefY w0 W g ge t vts vhs p) : RefY w0 W.drew g ge t vts vhs p := h.below (below_drew (Below.refl _ _))
theorem RefY.alloc (h : RefY w0 W g ge t vts vhs p) (o : Obj) : RefY w0 (W.alloc o) g ge t vts vhs p := h.below (below_alloc (Below.refl _ _) _)
theorem RefY.back (h : RefY w0 W g ge t vts vhs p) (hg : w0.heap.size = g) {A : Option Addr} {c : Nat} (l' : List TOK) (hC : Kd.C k46 W A l'.length l') (hc : l'.length ≤ c) : RefX w0 W A c vts vhs { p with l := l' } := by
 obtain ⟨h1, h2, h3, h4, h5, h6⟩ := h
 subst hg
 exact ⟨h1, h2, hc, hC, Kd.R_mono h4 (fun k hk => ⟨hk.1, hk.2.1⟩), Kd.R_mono h5 (fun k hk => ⟨hk.1, hk.2.1⟩), h6⟩
theorem RefY.heads {w1 : World} {v1 : Value} {hs1 : List TOK} (h : RefY w0 W g ge t vts vhs p) (hg : W.grownBy w1 vhs.ownBlock) (hb : Below w0.heap.size w0 w1) (hr : Kd.R k46 46 w1 w0.heap.size (fun k => k ≠ g ∧ k ≠ g + 1 ∧ k ≠ ge) v1 hs1) : RefY w0 w1 g ge t vts v1 { p with hs := hs1 } := by
 obtain ⟨h1, h2, h3, h4, h5, h6⟩ := h
 exact ⟨blk_grown h1 hg (fun e => (h5.1 g e.symm).1 rfl), blk_grown h2 hg (fun e => (h5.1 _ e.symm).2.1 rfl), blk_grown h3 hg (fun e => (h5.1 _ e.symm).2.2 rfl), Kd.R_over h4 h5 (by decide) hg, hr, hb⟩
theorem RefY.tasks {w1 : World} {v1 : Value} {ts1 : List TK} (h : RefY w0 W g ge t vts vhs p) (hg : W.grownBy w1 vts.ownBlock) (hb : Below w0.heap.size w0 w1) (hr : Kd.R k40 40 w1 w0.heap.size (fun k => k ≠ g ∧ k ≠ g + 1 ∧ k ≠ ge) v1 ts1) (hgg : w0.heap.size ≤ g) (hge : ge ≠ g) :
  w1.heap[g]? = some (.cells #[.int .i64 p.b, vts] 26 (0, 0)) ∧ RefY w0 (w1.setCell ⟨g, 1, none⟩ v1) g ge t v1 vhs { p with ts := ts1 } := by
 obtain ⟨h1, h2, h3, h4, h5, h6⟩ := h
 have hG := blk_grown h1 hg (fun e => (h4.1 g e.symm).1 rfl)
 have hH := Kd.R_over h5 h4 (by decide) hg
 refine ⟨hG, blk_put hG 1 v1 rfl, ?_, ?_, Kd.R_set hr hG (by decide) 1 v1, Kd.R_set hH hG (by decide) 1 v1, hb.setCell hgg v1⟩
 ·exact (Below.heap_setCell w1 ⟨g, 1, none⟩ v1 (g + 1) (by show g + 1 ≠ g; omega)).trans (blk_grown h2 hg (fun e => (h4.1 _ e.symm).2.1 rfl))
 ·exact (Below.heap_setCell w1 ⟨g, 1, none⟩ v1 ge hge).trans (blk_grown h3 hg (fun e => (h4.1 _ e.symm).2.2 rfl))
theorem RefY.first (h : RefY w0 W g ge t vts vhs p) (hgg : w0.heap.size ≤ g) (hge : ge ≠ g) (hge2 : ge ≠ g + 1) (x : TOK) :
  RefY w0 ((((((W.setCell ⟨g, 0, none⟩ (.int .i64 x.f2)).setCell ⟨g + 1, 0, none⟩ (.int .i64 x.f0)).setCell ⟨g + 1, 1, none⟩ (.string x.f1)).setCell ⟨g + 1, 2, none⟩ (.int .i64 x.f2)).setCell ⟨g + 1, 3, none⟩ (.int .i64 x.f3)).setCell ⟨g + 1, 4, none⟩ (.int .i64 x.f4)) g ge t vts vhs { p with b := x.f2, bt := x } := by
 obtain ⟨h1, h2, h3, h4, h5, h6⟩ := h
 have f1 : ∀ (w : World) (j : Nat) (u : Value), (w.setCell ⟨g + 1, j, none⟩ u).heap[g]? = w.heap[g]? := fun w j u => Below.heap_setCell w ⟨g + 1, j, none⟩ u g (by show g ≠ g + 1; omega)
 have f2 : ∀ (w : World) (j : Nat) (u : Value), (w.setCell ⟨g + 1, j, none⟩ u).heap[ge]? = w.heap[ge]? := fun w j u => Below.heap_setCell w ⟨g + 1, j, none⟩ u ge hge2
 refine ⟨?_, ?_, ?_, ?_, ?_, ?_⟩
 ·rw [f1, f1, f1, f1, f1]; exact blk_put h1 0 _ rfl
 ·refine blk_put (blk_put (blk_put (blk_put (blk_put (cs := tokCs p.bt) ?_ 0 _ rfl) 1 _ rfl) 2 _ rfl) 3 _ rfl) 4 _ rfl
  exact (Below.heap_setCell W ⟨g, 0, none⟩ _ (g + 1) (by show g + 1 ≠ g; omega)).trans h2
 ·rw [f2, f2, f2, f2, f2]; exact (Below.heap_setCell W ⟨g, 0, none⟩ _ ge hge).trans h3
 ·exact Kd.R_far (p := ⟨g + 1, 4, none⟩) (Kd.R_far (p := ⟨g + 1, 3, none⟩) (Kd.R_far (p := ⟨g + 1, 2, none⟩) (Kd.R_far (p := ⟨g + 1, 1, none⟩) (Kd.R_far (p := ⟨g + 1, 0, none⟩) (Kd.R_far (p := ⟨g, 0, none⟩) h4 (fun _ hk => hk.1) _) (fun _ hk => hk.2.1) _) (fun _ hk => hk.2.1) _) (fun _ hk => hk.2.1) _) (fun _ hk => hk.2.1) _) (fun _ hk => hk.2.1) _
 ·exact Kd.R_far (p := ⟨g + 1, 4, none⟩) (Kd.R_far (p := ⟨g + 1, 3, none⟩) (Kd.R_far (p := ⟨g + 1, 2, none⟩) (Kd.R_far (p := ⟨g + 1, 1, none⟩) (Kd.R_far (p := ⟨g + 1, 0, none⟩) (Kd.R_far (p := ⟨g, 0, none⟩) h5 (fun _ hk => hk.1) _) (fun _ hk => hk.2.1) _) (fun _ hk => hk.2.1) _) (fun _ hk => hk.2.1) _) (fun _ hk => hk.2.1) _) (fun _ hk => hk.2.1) _
 ·have hg1 : w0.heap.size ≤ g + 1 := Nat.le_succ_of_le hgg
  exact (((((h6.setCell (p := ⟨g, 0, none⟩) hgg _).setCell (p := ⟨g + 1, 0, none⟩) hg1 _).setCell (p := ⟨g + 1, 1, none⟩) hg1 _).setCell (p := ⟨g + 1, 2, none⟩) hg1 _).setCell (p := ⟨g + 1, 3, none⟩) hg1 _).setCell (p := ⟨g + 1, 4, none⟩) hg1 _
theorem old_block {A : Addr} {L : List TOK} (h : Kd.C k46 w0 (some A) L.length L) (hl : 0 < L.length) : A.block < w0.heap.size := by
 obtain ⟨a, e, h0, _⟩ := at_T46 h 0 (by decide) (by omega)
 cases e
 simp only [Int.toNat_zero, Nat.zero_mul, Addr.add_zero'] at h0
 exact World.block_lt_of_cell? w0 A h0
end
/-- A line that is as it must be. -/
theorem good_line (qs : List (Int × List ByteArray)) (l : List TOK) (hE : EndsI l) (hk : ∀ q ∈ qs, q.1 < 3) (hf : firstBad (qs.map fitT ++ [endT]) l = none) :
  ∃ s r, l.drop qs.length = s :: r ∧ lineLen l = qs.length + 1 ∧ ((s.f0 = 4 ∧ r = []) ∨ (s.f0 = 3 ∧ EndsI r)) := by
 rcases seq_spec qs ⟨l, 0, 0, 0, 0, [], z46, []⟩ rfl hE.ends (fun q h => by have := hk q h; omega) with ⟨g1, g2, g3, g4⟩ | ⟨j, s, g1, g2, g3, g4, g5⟩
 ·obtain ⟨s, r, hs, hs'⟩ := (hE.drop _ g3).cons
  have hs : l.drop qs.length = s :: r := hs
  have g1 := g1 [endT]
  have hq : firstBad (qs.map fitT ++ [endT]) l = (firstBad [endT] (l.drop qs.length)).map (· + qs.length) := g1
  rw [hs, firstBad_end, hf] at hq
  have hE2 : endT s = true := by
   cases hh : endT s with
   | true => rfl
   | false => rw [if_neg (by rw [hh]; decide)] at hq; simp at hq
  refine ⟨s, r, hs, ?_, ?_⟩
  ·refine lineLen_at qs.length l s ?_ ?_ ?_
   ·have h := congrArg (fun z => z[0]?) hs
    simpa using h
   ·rcases (endT_iff s).1 hE2 with h | h <;> omega
   ·intro i hi x hx
    obtain ⟨t, ht1, ht2⟩ := g4 i hi
    have ht1 : l[i]? = some t := ht1
    rw [ht1] at hx
    have hx := Option.some.inj hx
    subst hx
    rw [fit_kind ht2]
    exact hk _ (List.getElem_mem hi)
  ·rcases hs' with h | ⟨h, h2⟩
   ·exact .inl h
   ·rcases (endT_iff s).1 hE2 with h3 | h3
    ·exact .inr ⟨h3, h2⟩
    ·exact absurd h3 h
 ·have g1 := g1 [endT]
  have hq : firstBad (qs.map fitT ++ [endT]) l = some j := g1
  rw [hf] at hq; cases hq
/-- What stands behind a good line. -/
theorem good_rest (qs : List (Int × List ByteArray)) (l : List TOK) (hE : EndsI l) (hk : ∀ q ∈ qs, q.1 < 3) (hf : firstBad (qs.map fitT ++ [endT]) l = none) :
  lineLen l = qs.length + 1 ∧ qs.length + 1 ≤ l.length ∧ ((l.getD (lineLen l - 1) z46).f0 = 4 ∨ (l.getD (lineLen l - 1) z46).f0 = 3 ∧ EndsI (l.drop (lineLen l))) := by
 obtain ⟨s, r, h1, h2, h3⟩ := good_line qs l hE hk hf
 have hlen : (l.drop qs.length).length = l.length - qs.length := List.length_drop
 rw [h1, List.length_cons] at hlen
 have hg : l.getD (lineLen l - 1) z46 = s := by
  rw [h2, Nat.add_sub_cancel, List.getD_eq_getElem?_getD]
  have h := congrArg (fun z => z[0]?) h1
  have h : l[qs.length]? = some s := by simpa using h
  rw [h]; rfl
 have hd : l.drop (lineLen l) = r := by
  rw [h2, ← List.drop_drop, h1]; rfl
 refine ⟨h2, by omega, ?_⟩
 rw [hg, hd]
 rcases h3 with h | h
 ·exact .inl h.1
 ·exact .inr h
/-- The state behind a line of a task. -/
theorem RefK.task {w0 : World} {A A' : Option Addr} {k n : Nat} {p : PS} {r : Int × List TK × Int × Int × Int} (h : RefK w0 A (k + 1) p n r) (hn : n ≠ 0) (h1 : lineLen p.l ≠ 1) (hf : firstBad csT p.l = none)
  (l' : List TOK) (hl : ((p.l.getD (lineLen p.l - 1) z46).f0 = 4 ∧ l' = [p.l.getD (lineLen p.l - 1) z46]) ∨ (¬ (p.l.getD (lineLen p.l - 1) z46).f0 = 4 ∧ l' = p.l.drop (lineLen p.l) ∧ (Kd.C k46 w0 A p.l.length p.l → Kd.C k46 w0 A' (p.l.drop (lineLen p.l)).length (p.l.drop (lineLen p.l))))) :
  RefK w0 A' k { p with l := l', hs := p.hs ++ [p.l.getD 0 z46], ts := p.ts ++ [taskOf p.l] } (n + 1) r := by
 obtain ⟨he, hE, h4, hlt, hg, hh, hs, hnn, hc⟩ := h
 obtain ⟨g1, g2, g3⟩ := good_rest qT p.l hE (by decide) hf
 have g1 : lineLen p.l = 13 := g1
 have g2 : 13 ≤ p.l.length := g2
 have hlr : l'.length ≤ p.l.length - 12 ∧ 0 < l'.length := by
  rcases hl with ⟨_, h⟩ | ⟨h0, h, _⟩
  ·rw [h]; simp; omega
  ·rw [h, g1, List.length_drop]
   have := (g3.resolve_left h0).2.ends.ne
   rw [g1] at this
   have := List.length_pos_iff.2 this
   rw [List.length_drop] at this
   omega
 have hmem : p.l.getD (lineLen p.l - 1) z46 ∈ p.l := by
  rw [List.getD_eq_getElem?_getD, List.getElem?_eq_getElem (by omega)]
  exact List.getElem_mem _
 refine ⟨he, ?_, ?_, by show l'.length < k; omega, ?_, by show (p.hs ++ [_]).length = (p.ts ++ [_]).length; simp; omega, by show (p.hs ++ [_]).length + l'.length ≤ _; simp; omega, by show n + 1 + l'.length ≤ _; omega, ?_⟩
 ·show EndsI l'
  rcases hl with ⟨h0, h⟩ | ⟨h0, h, _⟩
  ·rw [h]; exact ⟨[], _, rfl, h0, fun x hx => by simp at hx⟩
  ·rw [h]; exact (g3.resolve_left h0).2
 ·show ∀ x ∈ l', x.f0 ≤ 4
  intro x hx
  rcases hl with ⟨_, h⟩ | ⟨_, h, _⟩
  ·rw [h, List.mem_singleton] at hx; rw [hx]; exact h4 _ hmem
  ·rw [h] at hx; exact h4 x (List.mem_of_mem_drop hx)
 ·rw [← hg]
  conv => rhs; rw [refGo]
  simp only []
  rw [if_neg (fun hh => h1 hh.1), if_neg hn, hf]
  simp only [if_neg hn]
  rcases hl with ⟨h0, h⟩ | ⟨h0, h, _⟩
  ·rw [if_pos h0, h]
  ·rw [if_neg h0, h]
 ·rcases hl with ⟨h0, h⟩ | ⟨h0, h, h3⟩
  ·exact .inr ⟨_, h, h0, Nat.succ_pos n⟩
  ·rcases hc with hc | ⟨s, hs2, _, _⟩
   ·rw [← h] at h3; exact .inl (h3 hc)
   ·rw [hs2] at g2; simp at g2
/-- The state behind the first line. -/
theorem RefK.first {w0 : World} {A A' : Option Addr} {k : Nat} {p : PS} {r : Int × List TK × Int × Int × Int} (h : RefK w0 A (k + 1) p 0 r) (hf : firstBad csB p.l = none)
  (l' : List TOK) (hl : ((p.l.getD (lineLen p.l - 1) z46).f0 = 4 ∧ l' = [p.l.getD (lineLen p.l - 1) z46]) ∨ (¬ (p.l.getD (lineLen p.l - 1) z46).f0 = 4 ∧ l' = p.l.drop (lineLen p.l) ∧ (Kd.C k46 w0 A p.l.length p.l → Kd.C k46 w0 A' (p.l.drop (lineLen p.l)).length (p.l.drop (lineLen p.l))))) :
  RefK w0 A' k { p with l := l', b := (p.l.getD 1 z46).f2, bt := p.l.getD 1 z46 } 1 r := by
 obtain ⟨he, hE, h4, hlt, hg, hh, hs, hnn, hc⟩ := h
 obtain ⟨g1, g2, g3⟩ := good_rest qB p.l hE (by decide) hf
 have g1 : lineLen p.l = 3 := g1
 have g2 : 3 ≤ p.l.length := g2
 have hlr : l'.length ≤ p.l.length - 2 ∧ 0 < l'.length := by
  rcases hl with ⟨_, h⟩ | ⟨h0, h, _⟩
  ·rw [h]; simp; omega
  ·rw [h, g1, List.length_drop]
   have := (g3.resolve_left h0).2.ends.ne
   rw [g1] at this
   have := List.length_pos_iff.2 this
   rw [List.length_drop] at this
   omega
 have hmem : p.l.getD (lineLen p.l - 1) z46 ∈ p.l := by
  rw [List.getD_eq_getElem?_getD, List.getElem?_eq_getElem (by omega)]
  exact List.getElem_mem _
 refine ⟨he, ?_, ?_, by show l'.length < k; omega, ?_, hh, by show p.hs.length + l'.length ≤ _; omega, by show 1 + l'.length ≤ _; omega, ?_⟩
 ·show EndsI l'
  rcases hl with ⟨h0, h⟩ | ⟨h0, h, _⟩
  ·rw [h]; exact ⟨[], _, rfl, h0, fun x hx => by simp at hx⟩
  ·rw [h]; exact (g3.resolve_left h0).2
 ·show ∀ x ∈ l', x.f0 ≤ 4
  intro x hx
  rcases hl with ⟨_, h⟩ | ⟨_, h, _⟩
  ·rw [h, List.mem_singleton] at hx; rw [hx]; exact h4 _ hmem
  ·rw [h] at hx; exact h4 x (List.mem_of_mem_drop hx)
 ·rw [← hg]
  conv => rhs; rw [refGo]
  simp only []
  rw [if_neg (fun hh => by omega)]
  simp only [if_true, hf]
  rcases hl with ⟨h0, h⟩ | ⟨h0, h, _⟩
  ·rw [if_pos h0, h]
  ·rw [if_neg h0, h]
 ·rcases hl with ⟨h0, h⟩ | ⟨h0, h, h3⟩
  ·exact .inr ⟨_, h, h0, Nat.succ_pos 0⟩
  ·rcases hc with hc | ⟨s, hs2, _, h0⟩
   ·rw [← h] at h3; exact .inl (h3 hc)
   ·exact absurd h0 (Nat.lt_irrefl 0)
end Go.Proofs.YtddbkcfdfgehkaaDoor.Q
