-- Texts of this claim, put together: HparsG, LparsU, LparsV, LparsW.
import Derived.Test.YtddbkcfdfgehkaaDoorM0
import Derived.Test.YtddbkcfdfgehkaaDoorHparsF
import Derived.Test.YtddbkcfdfgehkaaDoorM10
import Derived.Test.YtddbkcfdfgehkaaDoorM1
import Derived.Test.YtddbkcfdfgehkaaDoorHparsE
-- parse.Set and parse.Mode, in the printer's own form.
namespace Go.Proofs.YtddbkcfdfgehkaaDoor.Q
open Go.RowKit Go.Proofs.YtddbkcfdfgehkaaDoorW.PrintWords Go.Proofs.YtddbkcfdfgehkaaDoorW.PrintLast Go.Proofs.YtddbkcfdfgehkaaDoorW.PrintMore
attribute [local go_sem] max2_int min2_int max_two min_two max_three min_three max_four min_four   -- for this text's walks alone
set_option linter.unusedVariables false
set_option linter.unusedSimpArgs false

def parse_Mode.f (a0 : ByteArray) : Option Int := some (modeOf a0)
theorem parse_Mode.calls (a0 : ByteArray) (r : Int) (w : World) (h : parse_Mode.f a0 = some r) :
    Calls Tryd.prog 14 #[.string a0] w fun e w' => e = .returned (.int .i64 r) ∧ Below w.heap.size w w' := by
  obtain rfl := Option.some.inj h
  exact mode_ask a0 w
def parse_Set.f (l0 : List Int) : Option (Int × (List (S40)) × Int × Int × Int) := if okBytes l0 = true ∧ l0.length ≤ 100000 then some (parseF l0) else none
theorem parse_Set.calls (A0 : Option Addr) (c0 : Nat) (l0 : List Int) (r1 : Int) (r2 : List (S40)) (r3 : Int) (r4 : Int) (r5 : Int) (w : World) (hr0 : Kd.C (Kd.int .u8) w A0 l0.length l0) (hc0 : l0.length ≤ c0) (h : parse_Set.f l0 = some (r1, r2, r3, r4, r5)) :
    Calls Tryd.prog 10 #[.slice A0 l0.length c0] w fun e w' => ∃ v0_ : Value, e = .returned (.tuple #[.agg #[.int .i64 r1, v0_], .agg #[.int .i64 r3, .int .i64 r4, .int .i64 r5]]) ∧ Kd.R k40 40 w' w.heap.size (fun _ => True) v0_ r2 ∧ Below w.heap.size w w' := by
  unfold parse_Set.f at h
  split at h
  case isFalse => exact absurd h (by simp)
  case isTrue hcond =>
  have h2 := Option.some.inj h
  have e1 : (parseF l0).1 = r1 := by rw [h2]
  have e2 : (parseF l0).2.1 = r2 := by rw [h2]
  have e3 : (parseF l0).2.2.1 = r3 := by rw [h2]
  have e4 : (parseF l0).2.2.2.1 = r4 := by rw [h2]
  have e5 : (parseF l0).2.2.2.2 = r5 := by rw [h2]
  rw [← e1, ← e2, ← e3, ← e4, ← e5]
  exact set_ask A0 c0 l0 w hr0 hc0 hcond.1 hcond.2
end Go.Proofs.YtddbkcfdfgehkaaDoor.Q

-- What holds of a text's tokens, and of a text behind itself (no program in sight).
namespace Go.Proofs.YtddbkcfdfgehkaaDoor.Q
open Go.RowKit Go.Proofs.YtddbkcfdfgehkaaDoorW.PrintWords Go.Proofs.YtddbkcfdfgehkaaDoorW.PrintLast Go.Proofs.YtddbkcfdfgehkaaDoorW.PrintMore
attribute [local go_sem] max2_int min2_int max_two min_two max_three min_three max_four min_four   -- for this text's walks alone
set_option linter.unusedVariables false
set_option linter.unusedSimpArgs false

def Good (N : Nat) (t : TOK) : Prop := 1 ≤ t.f0 ∧ t.f0 ≤ 4 ∧ 1 ≤ t.f3 ∧ 1 ≤ t.f4 ∧ t.f4 ≤ N + 1
theorem piece_kinds {s : List Int} (hs : s ≠ []) (he : (piece s).1 = 0) : (piece s).2.2.1 = none ∨ ∃ k x v, (k = 1 ∨ k = 2 ∨ k = 3) ∧ (piece s).2.2.1 = some (k, x, v) := by
  rcases piece_adds hs he with ⟨-, -, -, h⟩ | ⟨-, -, h | ⟨k, x, v, hk, h⟩⟩
  · exact .inr ⟨3, _, _, .inr (.inr rfl), h⟩
  · exact .inl h
  · exact .inr ⟨k, x, v, by omega, h⟩
theorem toksI (N : Nat) (f : Nat) : ∀ (s : List Int) (line col : Int) (xs : List TOK), s.length < f → 1 ≤ line → 1 ≤ col → col + s.length ≤ N + 1 →
    ((toks f s line col xs).2.1 = 0 → ∃ (ys : List TOK) (L C : Int), (toks f s line col xs).1 = xs ++ ys ++ [⟨4, (⟨#[]⟩ : ByteArray), 0, L, C⟩] ∧ 1 ≤ L ∧ 1 ≤ C ∧ C ≤ N + 1 ∧ ∀ t ∈ ys, Good N t ∧ t.f0 ≤ 3) ∧
    ((toks f s line col xs).2.1 ≠ 0 → 1 ≤ (toks f s line col xs).2.2.1 ∧ 1 ≤ (toks f s line col xs).2.2.2 ∧ (toks f s line col xs).2.2.2 ≤ N + 1) := by
  induction f with
  | zero => intro s _ _ _ h; omega
  | succ f ih =>
    intro s line col xs h h1 h2 h3
    simp only [toks]
    by_cases hs : s = []
    · subst hs
      rw [if_pos rfl]
      refine ⟨fun _ => ⟨[], line, col, by simp, h1, h2, by simp at h3; exact h3, by simp⟩, fun h => absurd rfl h⟩
    · rw [if_neg hs]
      by_cases he : (piece s).1 ≠ 0
      · rw [if_pos he]
        exact ⟨fun h => absurd h he, fun _ => ⟨h1, h2, by show col ≤ N + 1; omega⟩⟩
      · rw [if_neg he]
        have he0 : (piece s).1 = 0 := by omega
        have p1 := piece_pos hs he0
        have p2 := piece_le s
        have hlen : (s.drop (piece s).2.1).length = s.length - (piece s).2.1 := List.length_drop ..
        have hk : ∀ t ∈ tokL (piece s).2.2.1 line col, Good N t ∧ t.f0 ≤ 3 := by
          intro t ht
          rcases piece_kinds hs he0 with hp | ⟨k, x, v, hk, hp⟩
          · rw [hp] at ht; cases ht
          · rw [hp] at ht
            simp only [tokL, List.mem_cons, List.not_mem_nil, or_false] at ht
            subst ht
            exact ⟨⟨by show 1 ≤ k; omega, by show k ≤ 4; omega, h1, h2, by show col ≤ N + 1; omega⟩, by show k ≤ 3; omega⟩
        have h4 := ih (s.drop (piece s).2.1) (if (piece s).2.2.2 = true then line + 1 else line) (if (piece s).2.2.2 = true then 1 else col + (piece s).2.1) (xs ++ tokL (piece s).2.2.1 line col) (by omega) (by split <;> omega) (by split <;> omega) (by rw [hlen]; split <;> omega)
        refine ⟨fun h => ?_, h4.2⟩
        obtain ⟨ys, L, C, g1, g2, g3, g4, g5⟩ := h4.1 h
        refine ⟨tokL (piece s).2.2.1 line col ++ ys, L, C, by rw [g1]; simp, g2, g3, g4, fun t ht => ?_⟩
        rcases List.mem_append.1 ht with ht | ht
        · exact hk t ht
        · exact g5 t ht
theorem lexI (l : List Int) : ((lexToks l).2.1 = 0 → ∃ (ys : List TOK) (L C : Int), (lexToks l).1 = ys ++ [⟨4, (⟨#[]⟩ : ByteArray), 0, L, C⟩] ∧ 1 ≤ L ∧ 1 ≤ C ∧ C ≤ l.length + 1 ∧ ∀ t ∈ ys, Good l.length t ∧ t.f0 ≤ 3) ∧
    ((lexToks l).2.1 ≠ 0 → 1 ≤ (lexToks l).2.2.1 ∧ 1 ≤ (lexToks l).2.2.2 ∧ (lexToks l).2.2.2 ≤ l.length + 1) := by
  have h := toksI l.length (l.length + 1) l 1 1 [] (by omega) (by omega) (by omega) (by omega)
  unfold lexToks
  refine ⟨fun h0 => ?_, h.2⟩
  obtain ⟨ys, L, C, g⟩ := h.1 h0
  exact ⟨ys, L, C, by simpa using g⟩
theorem twice_toks (a b : List Int) (ha : (lexToks a).2.1 = 0) (hb : (lexToks b).2.1 = 0) : ∃ ys C, (lexToks a).1 = ys ++ [⟨4, (⟨#[]⟩ : ByteArray), 0, 1 + (cnt a : Int), C⟩] ∧ Inner ys ∧ lexToks (a ++ 10 :: b) = (ys ++ ⟨3, (⟨#[]⟩ : ByteArray), 0, 1 + (cnt a : Int), C⟩ :: (lexToks b).1.map (shL (1 + (cnt a : Int))), 0, 0, 0) := by
  have hlen : (a ++ 10 :: b).length = a.length + (b.length + 1) := by simp
  cases way _ a (Nat.le_refl _) 1 1 (Int.le_refl _) with
  | err e l c he hl hc g0 g1 g2 =>
    have e1 : lexToks a = ([], e, l, c) := g0 _ _ (by omega)
    rw [e1] at ha
    have ha' : e = 0 := ha
    omega
  | ok ys C hn hk hy g0 g1 g2 =>
    have e1 : lexToks a = ([] ++ ys ++ [⟨4, (⟨#[]⟩ : ByteArray), 0, 1 + (cnt a : Int), C⟩], 0, 0, 0) := g0 _ _ (by omega)
    have e2 : lexToks (a ++ 10 :: b) = toks (b.length + 1) b (1 + (cnt a : Int) + 1) 1 ([] ++ ys ++ [⟨3, (⟨#[]⟩ : ByteArray), 0, 1 + (cnt a : Int), C⟩]) := g1 _ _ b (by omega)
    have hs := toks_shift (b.length + 1) b (by omega) 1 (1 + (cnt a : Int)) 1 (ys ++ [⟨3, (⟨#[]⟩ : ByteArray), 0, 1 + (cnt a : Int), C⟩]) []
    rw [List.map_nil, List.append_nil, show (1 : Int) + (1 + (cnt a : Int)) = 1 + (cnt a : Int) + 1 from by omega] at hs
    have e3 := e2
    rw [List.nil_append, hs] at e3
    refine ⟨ys, C, by rw [e1]; rfl, fun t ht => by have := hk t ht; omega, ?_⟩
    rw [e3]; unfold lexToks at hb; rw [if_pos hb]; unfold lexToks; simp
/-- A text that is read, behind itself. -/
theorem read_twice (l : List Int) (h : (parseF l).2.2.1 = 0) : ∃ ln cl, parseF (l ++ 10 :: l) = (0, [], 5, ln, cl) ∧ 1 + (cnt l : Int) < ln ∧ 1 ≤ cl := by
  have h0 : (lexToks l).2.1 = 0 := by
    rcases Decidable.em ((lexToks l).2.1 = 0) with h1 | h1
    · exact h1
    · unfold parseF at h; rw [if_neg h1] at h; exact absurd h h1
  obtain ⟨ys, C, g1, g2, g3⟩ := twice_toks l l h0 h0
  unfold parseF at h ⊢
  rw [if_pos h0] at h
  rw [g3]
  rw [g1] at h ⊢
  obtain ⟨a, ha, hp⟩ := parse_twice (t := ⟨4, (⟨#[]⟩ : ByteArray), 0, 1 + (cnt l : Int), C⟩) (nl := ⟨3, (⟨#[]⟩ : ByteArray), 0, 1 + (cnt l : Int), C⟩) ys rfl rfl g2 (1 + (cnt l : Int)) (shL (1 + (cnt l : Int))) (fun a => ⟨rfl, rfl, rfl, rfl⟩) h
  refine ⟨a.f3 + (1 + (cnt l : Int)), a.f4, hp, ?_⟩
  obtain ⟨ys', L, C', e1, e2, e3, e4, e5⟩ := (lexI l).1 h0
  rw [← g1, e1] at ha
  rcases List.mem_append.1 ha with ha | ha
  · have := (e5 a ha).1; unfold Good at this; omega
  · simp only [List.mem_cons, List.not_mem_nil, or_false] at ha
    subst ha
    exact ⟨by show 1 + (cnt l : Int) < L + (1 + (cnt l : Int)); omega, e3⟩
end Go.Proofs.YtddbkcfdfgehkaaDoor.Q

-- What holds of a parser's answer: its places, and how many tasks it has (no program in sight).
namespace Go.Proofs.YtddbkcfdfgehkaaDoor.Q
open Go.RowKit Go.Proofs.YtddbkcfdfgehkaaDoorW.PrintWords Go.Proofs.YtddbkcfdfgehkaaDoorW.PrintLast Go.Proofs.YtddbkcfdfgehkaaDoorW.PrintMore
attribute [local go_sem] max2_int min2_int max_two min_two max_three min_three max_four min_four   -- for this text's walks alone
set_option linter.unusedVariables false
set_option linter.unusedSimpArgs false

/-- What is kept: tokens of which Q holds, and a place of one of these. -/
def Keeps (Q : TOK → Prop) (p : PS) : Prop := (∀ t ∈ p.l, Q t) ∧ Ends p.l ∧ (∀ t ∈ p.hs, Q t) ∧ (p.e ≠ 0 → ∃ t, Q t ∧ p.ln = t.f3 ∧ p.cl = t.f4)
section
variable {Q : TOK → Prop} {p : PS}
theorem now_mem (h : Ends p.l) : p.now ∈ p.l := by
  unfold PS.now
  cases hl : p.l with
  | nil => exact absurd hl h.ne
  | cons a r => exact List.mem_cons_self
theorem take_keeps (h : Keeps Q p) (k : Int) (hk : k ≠ 4) (tx : List ByteArray) : Keeps Q (p.take k tx).1 := by
  have hE := take_ends h.2.1 k hk tx
  obtain ⟨h1, h2, h3, h4⟩ := h
  refine ⟨?_, hE, by rw [(take_hs p k tx).1]; exact h3, ?_⟩
  · intro t ht
    unfold PS.take PS.fail at ht
    split at ht
    · exact h1 t (List.mem_of_mem_tail ht)
    · split at ht <;> exact h1 t ht
  · intro he
    unfold PS.take PS.fail at he ⊢
    split
    · rename_i hf; rw [if_pos hf] at he; exact h4 he
    · rename_i hf
      rw [if_neg hf] at he
      split
      · exact ⟨p.now, h1 _ (now_mem h2), rfl, rfl⟩
      · rename_i h0; exact h4 h0
theorem nums_keeps (h : Keeps Q p) : ∀ n, Keeps Q (PS.nums n p).1
  | 0 => h
  | n + 1 => take_keeps (nums_keeps h n) 2 (by decide) []
theorem fin_keeps (h : Keeps Q p) : Keeps Q p.fin := by
  unfold PS.fin
  split
  · exact h
  · exact take_keeps h 3 (by decide) []
theorem blank_keeps (h : Keeps Q p) : Keeps Q p.blank := by
  obtain ⟨h1, h2, h3, h4⟩ := h
  refine ⟨fun t ht => h1 t ((List.dropWhile_suffix _).subset ht), ?_, h3, h4⟩
  obtain ⟨r, t, hr, ht⟩ := h2
  unfold PS.blank
  show Ends (p.l.dropWhile _)
  rw [hr]
  clear hr h1
  induction r with
  | nil => exact ⟨[], t, by rw [List.nil_append, List.dropWhile_cons, if_neg (by rw [ht]; decide)], ht⟩
  | cons a r ih =>
    rw [List.cons_append, List.dropWhile_cons]
    split
    · exact ih
    · exact ⟨a :: r, t, rfl, ht⟩
theorem one_keeps (h : Keeps Q p) : Keeps Q p.one := by
  obtain ⟨p1, hp1⟩ : ∃ p1 : PS, { p with hs := p.hs ++ [p.now] } = p1 := ⟨_, rfl⟩
  have h1 : Keeps Q p1 := by
    rw [← hp1]
    refine ⟨h.1, h.2.1, fun t ht => ?_, h.2.2.2⟩
    rcases List.mem_append.1 ht with ht | ht
    · exact h.2.2.1 t ht
    · simp at ht; rw [ht]; exact h.1 _ (now_mem h.2.1)
  have h7 := fin_keeps (nums_keeps (take_keeps (nums_keeps (take_keeps (take_keeps h1 1 (by decide) [wTask]) 1 (by decide) []) 3) 1 (by decide) [wRetry, wBlock, wBackup]) 6)
  unfold PS.one
  simp only [hp1]
  exact h7
theorem first_keeps (h : Keeps Q p) : Keeps Q p.first ∧ Q p.first.bt := by
  have h1 := take_keeps h 1 (by decide) [wBurst]
  obtain ⟨q, hq⟩ : ∃ q, (p.take 1 [wBurst]).1 = q := ⟨_, rfl⟩
  rw [hq] at h1
  have h2 : Keeps Q { q with bt := q.now } := h1
  have hb : Q q.now := h1.1 _ (now_mem h1.2.1)
  have h3 := take_keeps h2 2 (by decide) []
  obtain ⟨u, hu⟩ : ∃ u, ({ q with bt := q.now } : PS).take 2 [] = u := ⟨_, rfl⟩
  rw [hu] at h3
  have hub : u.1.bt = q.now := by rw [← hu]; exact (take_hs _ 2 []).2.2.2
  have ef : p.first = ({ u.1 with b := u.2.f2 } : PS).fin := by
    unfold PS.first PS.num
    simp only [hq, hu]
  have h4 : Keeps Q { u.1 with b := u.2.f2 } := h3
  rw [ef]
  refine ⟨fin_keeps h4, ?_⟩
  have : ({ u.1 with b := u.2.f2 } : PS).fin.bt = u.1.bt := by
    unfold PS.fin
    split
    · rfl
    · exact (take_hs _ 3 []).2.2.2
  rw [this, hub]; exact hb
theorem one_bt (p : PS) : p.one.bt = p.bt := by
  have nb : ∀ n (q : PS), (PS.nums n q).1.bt = q.bt := by
    intro n q
    induction n with
    | zero => rfl
    | succ n ih => exact ((take_hs _ 2 []).2.2.2).trans ih
  have fb : ∀ q : PS, q.fin.bt = q.bt := by
    intro q
    unfold PS.fin
    split
    · rfl
    · exact (take_hs _ 3 []).2.2.2
  unfold PS.one
  simp only [fb, nb, (take_hs _ _ _).2.2.2]
theorem go_keeps : ∀ (n : Nat) (p : PS), Keeps Q p → Q p.bt → p.hs.length = p.ts.length → Keeps Q (PS.go n p) ∧ Q (PS.go n p).bt ∧ (PS.go n p).hs.length = (PS.go n p).ts.length
  | 0, p, h, hb, hl => ⟨h, hb, hl⟩
  | n + 1, p, h, hb, hl => by
    rw [PS.go]
    split
    · refine go_keeps n p.one.blank (blank_keeps (one_keeps h)) ?_ ?_
      · show Q p.one.bt
        rw [one_bt]; exact hb
      · show p.one.hs.length = p.one.ts.length
        rw [(one_hs p).1, (one_hs p).2, hl]
    · exact ⟨h, hb, hl⟩
theorem wrong_place (h : Keeps Q p) (hb : Q p.bt) (hl : p.hs.length = p.ts.length) (hw : p.wrong.1 ≠ 0) : ∃ t, Q t ∧ p.wrong.2.1 = t.f3 ∧ p.wrong.2.2 = t.f4 := by
  have hg : ∀ i, i < p.hs.length → Q (p.hs.getD i z46) := fun i hi => by
    rw [List.getD_eq_getElem?_getD, List.getElem?_eq_getElem hi]; exact h.2.2.1 _ (List.getElem_mem hi)
  unfold PS.wrong at hw ⊢
  simp only at hw ⊢
  by_cases h0 : (whyS p.b p.ts).1 = 0
  · rw [if_pos h0] at hw; exact absurd rfl hw
  · rw [if_neg h0]
    refine ⟨_, ?_, rfl, rfl⟩
    rcases whyS_range p.b p.ts with h1 | h1 | ⟨h1, h2⟩ | ⟨h1, h2, h3⟩
    · exact absurd h1 h0
    · rw [if_pos h1]; exact hb
    · rw [if_neg (by omega), if_pos h1]
      split
      · rename_i h4; exact hg 16 (by omega)
      · exact h.1 _ (now_mem h.2.1)
    · rw [if_neg (by omega), if_neg (by omega)]
      exact hg _ (by omega)
end
/-- Where a text isn't read: no tasks, and a place in it. -/
theorem parse_place (l : List Int) (h : (parseF l).2.2.1 ≠ 0) : (parseF l).2.1 = [] ∧ (parseF l).1 = 0 ∧ 1 ≤ (parseF l).2.2.2.1 ∧ 1 ≤ (parseF l).2.2.2.2 ∧ (parseF l).2.2.2.2 ≤ l.length + 1 := by
  have hL := lexI l
  unfold parseF at h ⊢
  by_cases h0 : (lexToks l).2.1 = 0
  · rw [if_pos h0] at h ⊢
    obtain ⟨ys, L, C, e1, e2, e3, e4, e5⟩ := hL.1 h0
    have hK : Keeps (fun t => 1 ≤ t.f3 ∧ 1 ≤ t.f4 ∧ t.f4 ≤ l.length + 1) (PS.init (lexToks l).1) := by
      refine ⟨fun t ht => ?_, ?_, fun t ht => (by cases ht), fun he => absurd rfl he⟩
      · show 1 ≤ t.f3 ∧ 1 ≤ t.f4 ∧ t.f4 ≤ l.length + 1
        have ht : t ∈ (lexToks l).1 := ht
        rw [e1] at ht
        rcases List.mem_append.1 ht with ht | ht
        · have := (e5 t ht).1; unfold Good at this; omega
        · simp at ht; subst ht; exact ⟨e2, e3, e4⟩
      · exact ⟨ys, _, e1, rfl⟩
    have h1 := first_keeps (blank_keeps hK)
    have hh := first_hs (PS.init (lexToks l).1).blank
    have h2 := go_keeps (lexToks l).1.length _ (blank_keeps h1.1) h1.2 (by
      show (PS.init (lexToks l).1).blank.first.hs.length = (PS.init (lexToks l).1).blank.first.ts.length
      rw [hh.1, hh.2]; rfl)
    unfold parseToks at h ⊢
    simp only at h ⊢
    obtain ⟨F, hF⟩ : ∃ F, PS.go (lexToks l).1.length (PS.init (lexToks l).1).blank.first.blank = F := ⟨_, rfl⟩
    rw [hF] at h h2 ⊢
    by_cases he : F.e = 0
    · simp only [if_pos he] at h ⊢
      by_cases hw : F.wrong.1 = 0
      · rw [if_pos hw] at h; exact absurd rfl h
      · rw [if_neg hw]
        obtain ⟨t, ht, g1, g2⟩ := wrong_place h2.1 h2.2.1 h2.2.2 hw
        refine ⟨rfl, rfl, ?_⟩
        show 1 ≤ F.wrong.2.1 ∧ 1 ≤ F.wrong.2.2 ∧ F.wrong.2.2 ≤ l.length + 1
        rw [g1, g2]; exact ht
    · simp only [if_neg he]
      obtain ⟨t, ht, g1, g2⟩ := h2.1.2.2.2 he
      refine ⟨by trivial, by trivial, ?_⟩
      show 1 ≤ F.ln ∧ 1 ≤ F.cl ∧ F.cl ≤ l.length + 1
      rw [g1, g2]; exact ht
  · rw [if_neg h0] at h ⊢
    exact ⟨rfl, rfl, hL.2 h0⟩
/-- A text that is read is a right set. -/
theorem parse_right (l : List Int) (h : (parseF l).2.2.1 = 0) : (whyS (parseF l).1 (parseF l).2.1).1 = 0 := by
  unfold parseF at h ⊢
  by_cases h0 : (lexToks l).2.1 = 0
  · rw [if_pos h0] at h ⊢
    unfold parseToks at h ⊢
    simp only at h ⊢
    obtain ⟨F, hF⟩ : ∃ F, PS.go (lexToks l).1.length (PS.init (lexToks l).1).blank.first.blank = F := ⟨_, rfl⟩
    rw [hF] at h ⊢
    by_cases he : F.e = 0
    · simp only [if_pos he] at h ⊢
      by_cases hw : F.wrong.1 = 0
      · rw [if_pos hw]
        show (whyS F.b F.ts).1 = 0
        rcases Decidable.em ((whyS F.b F.ts).1 = 0) with h1 | h1
        · exact h1
        · refine absurd hw ?_
          unfold PS.wrong
          simp only [if_neg h1]
          decide
      · rw [if_neg hw] at h; exact absurd h hw
    · simp only [if_neg he] at h
      exact absurd h he
  · rw [if_neg h0] at h
    exact absurd h h0
-- counting numbers: a task has nine
def cntN (l : List TOK) : Nat := l.countP (fun t => t.f0 == 2)
section
variable {p : PS}
theorem take_cnt (k : Int) (tx : List ByteArray) (h : (p.take k tx).1.e = 0) (hl : p.l ≠ []) : cntN p.l = (if k = 2 then 1 else 0) + cntN (p.take k tx).1.l := by
  obtain ⟨hf, -, hk⟩ := take_fit p k tx h
  unfold PS.take
  rw [if_pos hf]
  show cntN p.l = _ + cntN p.l.tail
  cases hp : p.l with
  | nil => exact absurd hp hl
  | cons a r =>
    have ha : a.f0 = k := by rw [← hk]; unfold PS.now; rw [hp]; rfl
    unfold cntN
    rw [List.countP_cons, ha, List.tail_cons]
    by_cases hk2 : k = 2
    · rw [if_pos hk2, if_pos (by simpa using hk2)]; omega
    · rw [if_neg hk2, if_neg (by simpa using hk2)]; omega
theorem nums_cnt (hE : Ends p.l) : ∀ n, (PS.nums n p).1.e = 0 → cntN p.l = n + cntN (PS.nums n p).1.l
  | 0, _ => by show cntN p.l = 0 + cntN p.l; omega
  | n + 1, h => by
    have h' : ((PS.nums n p).1.take 2 []).1.e = 0 := h
    have h1 : (PS.nums n p).1.e = 0 := (take_fit _ _ _ h').2.1
    have h2 := nums_cnt hE n h1
    have h3 := take_cnt 2 [] h' (nums_ends n p hE).ne
    rw [if_pos rfl] at h3
    show cntN p.l = n + 1 + cntN ((PS.nums n p).1.take 2 []).1.l
    omega
theorem fin_cnt (hE : Ends p.l) (h : p.fin.e = 0) : cntN p.l = cntN p.fin.l := by
  unfold PS.fin at h ⊢
  split
  · rfl
  · rename_i hn
    rw [if_neg hn] at h
    have := take_cnt 3 [] h hE.ne
    rw [if_neg (by decide)] at this
    omega
theorem blank_cnt : cntN p.blank.l = cntN p.l := by
  unfold PS.blank
  show cntN (p.l.dropWhile _) = _
  have : ∀ l : List TOK, cntN (l.dropWhile (fun t => t.f0 == 3)) = cntN l := by
    intro l
    induction l with
    | nil => rfl
    | cons a r ih =>
      rw [List.dropWhile_cons]
      split
      · rename_i h
        rw [ih]
        unfold cntN
        rw [List.countP_cons, if_neg]
        · rfl
        · simp at h ⊢; omega
      · rfl
  exact this _
theorem one_parts (he : p.one.e = 0) : ∃ p1 p2 p3 p4 p5 p6 : PS, p1 = { p with hs := p.hs ++ [p.now] } ∧ p2 = (p1.take 1 [wTask]).1 ∧ p3 = (p2.take 1 []).1 ∧ p4 = (PS.nums 3 p3).1 ∧ p5 = (p4.take 1 [wRetry, wBlock, wBackup]).1 ∧ p6 = (PS.nums 6 p5).1 ∧ p.one.l = p6.fin.l ∧ p6.fin.e = 0 ∧ p6.e = 0 ∧ p5.e = 0 ∧ p4.e = 0 ∧ p3.e = 0 ∧ p2.e = 0 ∧ p1.e = 0 := by
  obtain ⟨p1, hp1⟩ : ∃ p1 : PS, { p with hs := p.hs ++ [p.now] } = p1 := ⟨_, rfl⟩
  have e7 : p.one.l = (PS.nums 6 ((PS.nums 3 ((p1.take 1 [wTask]).1.take 1 []).1).1.take 1 [wRetry, wBlock, wBackup]).1).1.fin.l := by
    unfold PS.one; simp only [hp1]
  have he7 : (PS.nums 6 ((PS.nums 3 ((p1.take 1 [wTask]).1.take 1 []).1).1.take 1 [wRetry, wBlock, wBackup]).1).1.fin.e = 0 := by
    rw [← he]; unfold PS.one; simp only [hp1]
  have he6 : (PS.nums 6 ((PS.nums 3 ((p1.take 1 [wTask]).1.take 1 []).1).1.take 1 [wRetry, wBlock, wBackup]).1).1.e = 0 := by
    rcases Decidable.em ((PS.nums 6 ((PS.nums 3 ((p1.take 1 [wTask]).1.take 1 []).1).1.take 1 [wRetry, wBlock, wBackup]).1).1.e = 0) with hx | hx
    · exact hx
    · exact absurd he7 (fin_e _ hx)
  have he5 : ((PS.nums 3 ((p1.take 1 [wTask]).1.take 1 []).1).1.take 1 [wRetry, wBlock, wBackup]).1.e = 0 := by
    rcases Decidable.em (((PS.nums 3 ((p1.take 1 [wTask]).1.take 1 []).1).1.take 1 [wRetry, wBlock, wBackup]).1.e = 0) with hx | hx
    · exact hx
    · exact absurd he6 (nums_e _ _ hx)
  have he4 := (take_fit _ _ _ he5).2.1
  have he3 : ((p1.take 1 [wTask]).1.take 1 []).1.e = 0 := by
    rcases Decidable.em (((p1.take 1 [wTask]).1.take 1 []).1.e = 0) with hx | hx
    · exact hx
    · exact absurd he4 (nums_e _ _ hx)
  have he2 := (take_fit _ _ _ he3).2.1
  have he1 := (take_fit _ _ _ he2).2.1
  exact ⟨p1, _, _, _, _, _, hp1.symm, rfl, rfl, rfl, rfl, rfl, e7, he7, he6, he5, he4, he3, he2, he1⟩
theorem one_cnt (hE : Ends p.l) (he : p.one.e = 0) : cntN p.l = 9 + cntN p.one.l ∧ p.e = 0 := by
  obtain ⟨p1, p2, p3, p4, p5, p6, e1, e2, e3, e4, e5, e6, e7, g7, g6, g5, g4, g3, g2, g1⟩ := one_parts he
  have E1 : Ends p1.l := by rw [e1]; exact hE
  have c1 : cntN p1.l = cntN p.l := by rw [e1]
  have E2 : Ends p2.l := by rw [e2]; exact take_ends E1 1 (by decide) _
  have c2 : cntN p1.l = 0 + cntN p2.l := by rw [e2] at g2 ⊢; exact take_cnt 1 [wTask] g2 E1.ne
  have E3 : Ends p3.l := by rw [e3]; exact take_ends E2 1 (by decide) _
  have c3 : cntN p2.l = 0 + cntN p3.l := by rw [e3] at g3 ⊢; exact take_cnt 1 [] g3 E2.ne
  have E4 : Ends p4.l := by rw [e4]; exact nums_ends 3 _ E3
  have c4 : cntN p3.l = 3 + cntN p4.l := by rw [e4] at g4 ⊢; exact nums_cnt E3 3 g4
  have E5 : Ends p5.l := by rw [e5]; exact take_ends E4 1 (by decide) _
  have c5 : cntN p4.l = 0 + cntN p5.l := by rw [e5] at g5 ⊢; exact take_cnt 1 _ g5 E4.ne
  have E6 : Ends p6.l := by rw [e6]; exact nums_ends 6 _ E5
  have c6 : cntN p5.l = 6 + cntN p6.l := by rw [e6] at g6 ⊢; exact nums_cnt E5 6 g6
  have c7 := fin_cnt E6 g7
  refine ⟨by rw [e7]; omega, ?_⟩
  rw [e1] at g1; exact g1
theorem first_cnt (hE : Ends p.l) (he : p.first.e = 0) : cntN p.l = 1 + cntN p.first.l := by
  obtain ⟨q, hq⟩ : ∃ q, (p.take 1 [wBurst]).1 = q := ⟨_, rfl⟩
  obtain ⟨u, hu⟩ : ∃ u, ({ q with bt := q.now } : PS).take 2 [] = u := ⟨_, rfl⟩
  have ef : p.first = ({ u.1 with b := u.2.f2 } : PS).fin := by
    unfold PS.first PS.num
    simp only [hq, hu]
  rw [ef] at he ⊢
  have hue : u.1.e = 0 := by
    rcases Decidable.em (u.1.e = 0) with hx | hx
    · exact hx
    · exact absurd he (fin_e _ hx)
  have hqe : q.e = 0 := by rw [← hu] at hue; exact (take_fit _ _ _ hue).2.1
  have E1 : Ends q.l := by rw [← hq]; exact take_ends hE 1 (by decide) _
  have E2 : Ends u.1.l := by rw [← hu]; exact take_ends (p := { q with bt := q.now }) E1 2 (by decide) _
  have c1 : cntN p.l = 0 + cntN q.l := by rw [← hq] at hqe ⊢; exact take_cnt 1 [wBurst] hqe hE.ne
  have c2 : cntN q.l = 1 + cntN u.1.l := by rw [← hu] at hue ⊢; exact take_cnt (p := { q with bt := q.now }) 2 [] hue E1.ne
  have c3 : cntN u.1.l = cntN ({ u.1 with b := u.2.f2 } : PS).fin.l := fin_cnt (p := { u.1 with b := u.2.f2 }) E2 he
  omega
theorem blank_ends (h : Ends p.l) : Ends p.blank.l := by
  obtain ⟨r, t, hr, ht⟩ := h
  unfold PS.blank
  show Ends (p.l.dropWhile _)
  rw [hr]
  clear hr
  induction r with
  | nil => exact ⟨[], t, by rw [List.nil_append, List.dropWhile_cons, if_neg (by rw [ht]; decide)], ht⟩
  | cons a r ih =>
    rw [List.cons_append, List.dropWhile_cons]
    split
    · exact ih
    · exact ⟨a :: r, t, rfl, ht⟩
theorem one_ends (h : Ends p.l) : Ends p.one.l := by
  obtain ⟨p1, hp1⟩ : ∃ p1 : PS, { p with hs := p.hs ++ [p.now] } = p1 := ⟨_, rfl⟩
  have h1 : Ends p1.l := by rw [← hp1]; exact h
  have h7 := fin_ends (nums_ends 6 _ (take_ends (nums_ends 3 _ (take_ends (take_ends h1 1 (by decide) [wTask]) 1 (by decide) [])) 1 (by decide) [wRetry, wBlock, wBackup]))
  unfold PS.one
  simp only [hp1]
  exact h7
theorem first_ends (h : Ends p.l) : Ends p.first.l := by
  obtain ⟨q, hq⟩ : ∃ q, (p.take 1 [wBurst]).1 = q := ⟨_, rfl⟩
  obtain ⟨u, hu⟩ : ∃ u, ({ q with bt := q.now } : PS).take 2 [] = u := ⟨_, rfl⟩
  have ef : p.first = ({ u.1 with b := u.2.f2 } : PS).fin := by
    unfold PS.first PS.num
    simp only [hq, hu]
  have E1 : Ends q.l := by rw [← hq]; exact take_ends h 1 (by decide) _
  have E2 : Ends u.1.l := by rw [← hu]; exact take_ends (p := { q with bt := q.now }) E1 2 (by decide) _
  rw [ef]
  exact fin_ends (p := { u.1 with b := u.2.f2 }) E2
theorem go_cnt : ∀ (n : Nat) (p : PS), Ends p.l → p.l.length ≤ n → (PS.go n p).e = 0 → cntN p.l + 9 * p.ts.length = cntN (PS.go n p).l + 9 * (PS.go n p).ts.length ∧ (PS.go n p).now.f0 = 4 ∧ Ends (PS.go n p).l
  | 0, p, hE, hl, _ => absurd (List.eq_nil_of_length_eq_zero (Nat.le_zero.1 hl)) hE.ne
  | n + 1, p, hE, hl, he => by
    rw [PS.go] at he ⊢
    by_cases hc : p.e = 0 ∧ p.now.f0 ≠ 4
    · rw [if_pos hc] at he ⊢
      have hoe : p.one.e = 0 := by
        rcases Decidable.em (p.one.e = 0) with h | h
        · exact h
        · exact absurd he (by rw [go_bad n p.one.blank h]; exact h)
      have h1 := one_cnt hE hoe
      have h2 := one_len p hE.ne hoe
      have h3 := blank_len p.one
      have h4 := go_cnt n p.one.blank (blank_ends (one_ends hE)) (by omega) he
      have h5 : cntN p.one.blank.l = cntN p.one.l := blank_cnt
      have h6 : p.one.blank.ts.length = p.ts.length + 1 := (one_hs p).2
      refine ⟨by omega, h4.2⟩
    · rw [if_neg hc] at he ⊢
      refine ⟨rfl, ?_, hE⟩
      rcases Decidable.em (p.now.f0 = 4) with h | h
      · exact h
      · exact absurd ⟨he, h⟩ hc
end
/-- Inner tokens are left till the last. -/
theorem parse_count (ys : List TOK) (t : TOK) (ht : t.f0 = 4) (hi : Inner ys) (h : (parseToks (ys ++ [t])).2.2.1 = 0) : cntN (ys ++ [t]) = 1 + 9 * (parseToks (ys ++ [t])).2.1.length := by
  obtain ⟨T, hT⟩ : ∃ T, ys ++ [t] = T := ⟨_, rfl⟩
  rw [hT] at h ⊢
  have hE : Ends (PS.init T).l := ⟨ys, t, hT.symm, ht⟩
  have hge : (PS.go T.length (PS.init T).blank.first.blank).e = 0 := by
    rcases Decidable.em ((PS.go T.length (PS.init T).blank.first.blank).e = 0) with hx | hx
    · exact hx
    · refine absurd h ?_
      unfold parseToks
      simp only [if_neg hx]
      exact hx
  have hfe : (PS.init T).blank.first.e = 0 := by
    rcases Decidable.em ((PS.init T).blank.first.e = 0) with hx | hx
    · exact hx
    · exact absurd hge (by rw [go_bad _ (PS.init T).blank.first.blank hx]; exact hx)
  have h1 := first_cnt (blank_ends hE) hfe
  have h2 : cntN (PS.init T).blank.l = cntN T := blank_cnt
  have h3 : cntN (PS.init T).blank.first.blank.l = cntN (PS.init T).blank.first.l := blank_cnt
  have h4 := go_cnt T.length (PS.init T).blank.first.blank (blank_ends (first_ends (blank_ends hE))) (Nat.le_trans (blank_len _) (Nat.le_trans (first_len _) (blank_len _))) hge
  have h5 : (PS.init T).blank.first.blank.ts = [] := (first_hs _).2
  rw [h5] at h4
  have h6 := h4.1
  -- what is left is the end alone
  have h7 : cntN (PS.go T.length (PS.init T).blank.first.blank).l = 0 := by
    have hs : ∀ (n : Nat) (p : PS), p.l <:+ T → (PS.go n p).l <:+ T := by
      have ts : ∀ (p : PS) k tx, (p.take k tx).1.l <:+ p.l := by
        intro p k tx
        unfold PS.take PS.fail
        split
        · exact List.tail_suffix _
        · split <;> exact List.suffix_refl _
      have ns : ∀ n (p : PS), (PS.nums n p).1.l <:+ p.l := by
        intro n p
        induction n with
        | zero => exact List.suffix_refl _
        | succ n ih => exact (ts _ 2 []).trans ih
      have fs : ∀ p : PS, p.fin.l <:+ p.l := by
        intro p
        unfold PS.fin
        split
        · exact List.suffix_refl _
        · exact ts _ 3 []
      have os : ∀ p : PS, p.one.l <:+ p.l := by
        intro p
        unfold PS.one
        exact (fs _).trans ((ns _ _).trans ((ts _ _ _).trans ((ns _ _).trans ((ts _ _ _).trans (ts _ _ _)))))
      intro n
      induction n with
      | zero => intro p hp; exact hp
      | succ n ih =>
        intro p hp
        rw [PS.go]
        split
        · exact ih _ ((List.dropWhile_suffix _).trans ((os p).trans hp))
        · exact hp
    have hsuf := hs T.length (PS.init T).blank.first.blank (by
      have ts : ∀ (p : PS) k tx, (p.take k tx).1.l <:+ p.l := by
        intro p k tx
        unfold PS.take PS.fail
        split
        · exact List.tail_suffix _
        · split <;> exact List.suffix_refl _
      have fs : ∀ p : PS, p.fin.l <:+ p.l := by
        intro p
        unfold PS.fin
        split
        · exact List.suffix_refl _
        · exact ts _ 3 []
      have f1 : ∀ p : PS, p.first.l <:+ p.l := by
        intro p
        unfold PS.first
        exact (fs _).trans ((ts { (p.take 1 [wBurst]).1 with bt := (p.take 1 [wBurst]).1.now } 2 []).trans (ts _ _ _))
      exact (List.dropWhile_suffix _).trans ((f1 _).trans (List.dropWhile_suffix _)))
    obtain ⟨F, hF⟩ : ∃ F, PS.go T.length (PS.init T).blank.first.blank = F := ⟨_, rfl⟩
    rw [hF] at h4 hsuf ⊢
    obtain ⟨-, h8, hEF⟩ := h4
    rw [← hT] at hsuf
    obtain ⟨pre, hpre⟩ := hsuf
    cases hl : F.l with
    | nil => exact absurd hl hEF.ne
    | cons a r =>
      have ha : a.f0 = 4 := by rw [← h8]; unfold PS.now; rw [hl]; rfl
      rw [hl] at hpre
      cases r with
      | nil =>
        unfold cntN
        rw [List.countP_cons, ha]; rfl
      | cons b r =>
        exfalso
        have hm : a ∈ ys := by
          have e : (pre ++ [a]) ++ (b :: r) = ys ++ [t] := by rw [← hpre]; simp
          have e2 : (pre ++ [a]) ++ (b :: r).dropLast = ys := by
            have := congrArg List.dropLast e
            rw [List.dropLast_concat, List.dropLast_append_of_ne_nil (by simp)] at this
            exact this
          rw [← e2]; simp
        exact hi a hm ha
  have h8 : (parseToks T).2.1 = (PS.go T.length (PS.init T).blank.first.blank).ts := by
    unfold parseToks at h ⊢
    simp only [if_pos hge] at h ⊢
    by_cases hw : (PS.go T.length (PS.init T).blank.first.blank).wrong.1 = 0
    · rw [if_pos hw]
    · rw [if_neg hw] at h; exact absurd h hw
  rw [h8]
  simp at h6
  omega
-- a text's beginning has no more numbers
theorem tw_app (P : Int → Bool) (a r : List Int) : (a ++ r).takeWhile P = if a.takeWhile P = a then a ++ r.takeWhile P else a.takeWhile P := by
  induction a with
  | nil => simp
  | cons c a ih =>
    rw [List.cons_append, List.takeWhile_cons, List.takeWhile_cons, ih]
    by_cases h : P c = true
    · rw [if_pos h, if_pos h]
      by_cases h2 : a.takeWhile P = a
      · rw [if_pos h2, if_pos (by rw [h2])]; rfl
      · rw [if_neg h2, if_neg (by intro e; exact h2 (List.cons.inj e).2)]
    · rw [if_neg h, if_neg h, if_neg (by simp)]
def isNum (t : Option (Int × ByteArray × Int)) : Nat := match t with | none => 0 | some (k, _, _) => if k = 2 then 1 else 0
theorem tokL_num (t : Option (Int × ByteArray × Int)) (line col : Int) : cntN (tokL t line col) = isNum t := by
  unfold tokL isNum cntN
  split
  · rfl
  · rename_i k x v
    by_cases h : k = 2
    · subst h; rfl
    · show List.countP _ [_] = if k = 2 then 1 else 0
      rw [if_neg h, List.countP_cons, List.countP_nil, if_neg (by simpa using h)]
theorem piece_pre {a : List Int} (ha : a ≠ []) (r : List Int) (h0 : (piece a).1 = 0) (h1 : (piece (a ++ r)).1 = 0) : piece (a ++ r) = piece a ∨ ((piece a).2.1 = a.length ∧ isNum (piece a).2.2.1 = isNum (piece (a ++ r)).2.2.1) := by
  cases a with
  | nil => exact absurd rfl ha
  | cons c s =>
    rw [List.cons_append] at h1 ⊢
    have tw : ∀ P : Int → Bool, (c :: (s ++ r)).takeWhile P = if (c :: s).takeWhile P = c :: s then (c :: s) ++ r.takeWhile P else (c :: s).takeWhile P := fun P => tw_app P (c :: s) r
    rcases piece_ways c s with h | ⟨g1, g2, ⟨n, h⟩ | h⟩ | rfl | rfl | rfl | rfl | ⟨g1, g2, g3, g4, g5, g6⟩
    · rw [piece_word h, piece_word h, tw wdB]
      by_cases hw : (c :: s).takeWhile wdB = c :: s
      · right; rw [hw]; exact ⟨rfl, rfl⟩
      · left; rw [if_neg hw]
    · rw [piece_number g1 g2 h]
      cases hm : valGo 0 ((c :: (s ++ r)).takeWhile dgB) with
      | none => rw [piece_over g1 g2 hm] at h1; exact absurd h1 (by decide)
      | some m =>
        rw [piece_number g1 g2 hm]
        by_cases hw : (c :: s).takeWhile dgB = c :: s
        · right; rw [hw]; exact ⟨rfl, rfl⟩
        · left
          rw [tw dgB, if_neg hw] at hm ⊢
          rw [h] at hm
          cases hm; rfl
    · rw [piece_over g1 g2 h] at h0; exact absurd h0 (by decide)
    · left; rfl
    · left; rfl
    · left; rfl
    · rw [piece_remark, piece_remark, tw rkB]
      by_cases hw : (35 :: s).takeWhile rkB = 35 :: s
      · right; rw [hw]; exact ⟨rfl, rfl⟩
      · left; rw [if_neg hw]
    · rw [piece_bad g1 g2 g3 g4 g5 g6] at h0; exact absurd h0 (by decide)
theorem toks_more (F : Nat) : ∀ (s : List Int) (line col : Int) (xs : List TOK), s.length < F → (toks F s line col xs).2.1 = 0 → cntN xs ≤ cntN (toks F s line col xs).1 := by
  induction F with
  | zero => intro s _ _ _ h; omega
  | succ F ih =>
    intro s line col xs h h0
    by_cases hs : s = []
    · subst hs
      rw [toks_end]
      unfold cntN
      rw [List.countP_append]; omega
    · by_cases he : (piece s).1 = 0
      · rw [toks_go hs he] at h0 ⊢
        have p1 := piece_pos hs he
        have p2 : 0 < s.length := List.length_pos_iff.mpr hs
        have := ih _ _ _ _ (by rw [List.length_drop]; omega) h0
        refine Nat.le_trans ?_ this
        unfold cntN
        rw [List.countP_append]; omega
      · rw [toks_err hs he] at h0
        exact absurd h0 he
theorem pre_nums (n : Nat) : ∀ (a : List Int), a.length ≤ n → ∀ (r : List Int) (F G : Nat) (line col line' col' : Int) (xs ys : List TOK), a.length < F → (a ++ r).length < G → cntN xs ≤ cntN ys → (toks F a line col xs).2.1 = 0 → (toks G (a ++ r) line' col' ys).2.1 = 0 → cntN (toks F a line col xs).1 ≤ cntN (toks G (a ++ r) line' col' ys).1 := by
  induction n with
  | zero =>
    intro a ha r F G line col line' col' xs ys hF hG hx h0 h1
    have : a = [] := List.eq_nil_of_length_eq_zero (by omega)
    subst this
    obtain ⟨F, rfl⟩ : ∃ m, F = m + 1 := ⟨F - 1, by omega⟩
    rw [toks_end]
    refine Nat.le_trans ?_ (Nat.le_trans hx (toks_more G _ _ _ _ hG h1))
    unfold cntN
    rw [List.countP_append]
    exact Nat.le_refl _
  | succ n ih =>
    intro a ha r F G line col line' col' xs ys hF hG hx h0 h1
    by_cases hs : a = []
    · subst hs; exact ih [] (by simp) r F G line col line' col' xs ys hF hG hx h0 h1
    · obtain ⟨F, rfl⟩ : ∃ m, F = m + 1 := ⟨F - 1, by omega⟩
      obtain ⟨G, rfl⟩ : ∃ m, G = m + 1 := ⟨G - 1, by omega⟩
      have hs2 : a ++ r ≠ [] := fun e => hs (List.append_eq_nil_iff.1 e).1
      by_cases he : (piece a).1 = 0
      · by_cases he2 : (piece (a ++ r)).1 = 0
        · rw [toks_go hs he] at h0 ⊢
          rw [toks_go hs2 he2] at h1 ⊢
          have p1 := piece_pos hs he
          have p2 : 0 < a.length := List.length_pos_iff.mpr hs
          have p3 := piece_le a
          have p4 := piece_pos hs2 he2
          have p5 := piece_le (a ++ r)
          rcases piece_pre hs r he he2 with hp | ⟨hp, hq⟩
          · rw [hp] at h1 ⊢
            rw [List.drop_append_of_le_length p3] at h1 ⊢
            refine ih _ (by rw [List.length_drop]; omega) r F G _ _ _ _ _ _ (by rw [List.length_drop]; omega) (by simp at hG ⊢; omega) ?_ h0 h1
            unfold cntN at hx ⊢
            rw [List.countP_append, List.countP_append]
            have e1 := tokL_num (piece a).2.2.1 line col
            have e2 := tokL_num (piece a).2.2.1 line' col'
            unfold cntN at e1 e2
            omega
          · refine Nat.le_trans ?_ (toks_more G _ _ _ _ (by rw [List.length_drop]; omega) h1)
            obtain ⟨F, rfl⟩ : ∃ m, F = m + 1 := ⟨F - 1, by omega⟩
            rw [hp, List.drop_length, toks_end]
            unfold cntN at hx ⊢
            rw [List.countP_append, List.countP_append, List.countP_append]
            have e1 := tokL_num (piece a).2.2.1 line col
            have e2 := tokL_num (piece (a ++ r)).2.2.1 line' col'
            unfold cntN at e1 e2
            have e3 : ∀ L C : Int, List.countP (fun t : TOK => t.f0 == 2) [⟨4, (⟨#[]⟩ : ByteArray), 0, L, C⟩] = 0 := fun _ _ => rfl
            rw [e3]
            omega
        · rw [toks_err hs2 he2] at h1; exact absurd h1 he2
      · rw [toks_err hs he] at h0; exact absurd h0 he
theorem parse_cut (l : List Int) (k : Nat) (h : (parseF l).2.2.1 = 0) (h2 : (parseF (l.take k)).2.2.1 = 0) : (parseF (l.take k)).2.1.length ≤ (parseF l).2.1.length := by
  have lexok : ∀ s, (parseF s).2.2.1 = 0 → (lexToks s).2.1 = 0 := by
    intro s hs
    rcases Decidable.em ((lexToks s).2.1 = 0) with h1 | h1
    · exact h1
    · unfold parseF at hs; rw [if_neg h1] at hs; exact absurd hs h1
  have cnt : ∀ s, (parseF s).2.2.1 = 0 → cntN (lexToks s).1 = 1 + 9 * (parseF s).2.1.length := by
    intro s hs
    have h0 := lexok s hs
    obtain ⟨ys, L, C, e1, -, -, -, e5⟩ := (lexI s).1 h0
    unfold parseF at hs ⊢
    rw [if_pos h0] at hs ⊢
    rw [e1] at hs ⊢
    exact parse_count ys _ rfl (fun x hx => by have := (e5 x hx).2; omega) hs
  have h3 := cnt _ h
  have h4 := cnt _ h2
  have e : l.take k ++ l.drop k = l := List.take_append_drop k l
  have h5 := pre_nums (l.take k).length (l.take k) (Nat.le_refl _) (l.drop k) ((l.take k).length + 1) (l.length + 1) 1 1 1 1 [] [] (by omega) (by rw [e]; omega) (Nat.le_refl _) (lexok _ h2) (by rw [e]; exact lexok _ h)
  rw [e] at h5
  unfold lexToks at h3 h4
  omega
end Go.Proofs.YtddbkcfdfgehkaaDoor.Q

-- A text with more blanks, remarks and lines: the same set (no program in sight).
namespace Go.Proofs.YtddbkcfdfgehkaaDoor.Q
open Go.RowKit Go.Proofs.YtddbkcfdfgehkaaDoorW.PrintWords Go.Proofs.YtddbkcfdfgehkaaDoorW.PrintLast Go.Proofs.YtddbkcfdfgehkaaDoorW.PrintMore
attribute [local go_sem] max2_int min2_int max_two min_two max_three min_three max_four min_four   -- for this text's walks alone
set_option linter.unusedVariables false
set_option linter.unusedSimpArgs false

/-- Bytes with blanks doubled, remarks and empty lines at the lines' ends. -/
def blw (c : Int) : List Int := if c = 32 then [9, 32] else if c = 10 then [32, 35, 32, 97, 110, 100, 32, 115, 111, 32, 111, 110, 10, 32, 10] else [c]
def blow (l : List Int) : List Int := l.flatMap blw
def RT (a b : TOK) : Prop := b.f0 = a.f0 ∧ b.f1 = a.f1 ∧ b.f2 = a.f2 ∧ b.f3 = 2 * a.f3 + 1
inductive Dbl : List TOK → List TOK → Prop
  | nil : Dbl [] []
  | line (a b c : TOK) (r r' : List TOK) (ha : a.f0 = 3) (hb : RT a b) (hc : c.f0 = 3) (h : Dbl r r') : Dbl (a :: r) (b :: c :: r')
  | other (a b : TOK) (r r' : List TOK) (ha : a.f0 ≠ 3) (hb : RT a b) (h : Dbl r r') : Dbl (a :: r) (b :: r')
theorem Dbl.app {x x' y y' : List TOK} (h : Dbl x x') (g : Dbl y y') : Dbl (x ++ y) (x' ++ y') := by
  induction h with
  | nil => exact g
  | line a b c r r' ha hb hc _ ih => exact .line a b c _ _ ha hb hc ih
  | other a b r r' ha hb _ ih => exact .other a b _ _ ha hb ih
theorem blow_cons (c : Int) (s : List Int) : blow (c :: s) = blw c ++ blow s := rfl
theorem blow_app (s t : List Int) : blow (s ++ t) = blow s ++ blow t := by unfold blow; rw [List.flatMap_append]
theorem blow_keep {s : List Int} (h : ∀ x ∈ s, x ≠ 32 ∧ x ≠ 10) : blow s = s := by
  induction s with
  | nil => rfl
  | cons c s ih =>
    have hc := h c List.mem_cons_self
    rw [blow_cons, ih (fun x hx => h x (List.mem_cons_of_mem _ hx))]
    unfold blw
    rw [if_neg hc.1, if_neg hc.2]; rfl
/-- Where a run of bytes ends, the blown text's run ends. -/
theorem tw_blow {P : Int → Bool} (h9 : P 9 = false) (h32 : P 32 = false) (h10 : P 10 = false) (s : List Int) : (blow s).takeWhile P = s.takeWhile P ∧ (blow s).drop (s.takeWhile P).length = blow (s.drop (s.takeWhile P).length) := by
  induction s with
  | nil => exact ⟨rfl, rfl⟩
  | cons c s ih =>
    rw [blow_cons]
    unfold blw
    by_cases h1 : c = 32
    · subst h1; rw [if_pos rfl, List.takeWhile_cons, if_neg (by rw [h32]; decide)]
      constructor
      · show List.takeWhile P (9 :: (32 :: blow s)) = []
        rw [List.takeWhile_cons, if_neg (by rw [h9]; decide)]
      · rfl
    · by_cases h2 : c = 10
      · subst h2; rw [if_neg (by decide), if_pos rfl, List.takeWhile_cons, if_neg (by rw [h10]; decide)]
        constructor
        · show List.takeWhile P (32 :: _) = []
          rw [List.takeWhile_cons, if_neg (by rw [h32]; decide)]
        · rfl
      · rw [if_neg h1, if_neg h2, List.singleton_append, List.takeWhile_cons, List.takeWhile_cons]
        by_cases hp : P c = true
        · rw [if_pos hp, if_pos hp, ih.1]
          exact ⟨rfl, ih.2⟩
        · rw [if_neg hp, if_neg hp]
          refine ⟨rfl, ?_⟩
          rw [List.length_nil, List.drop_zero, List.drop_zero, blow_cons]
          unfold blw
          rw [if_neg h1, if_neg h2]; rfl
/-- A remark in a blown text. -/
theorem tw_remark (w rest : List Int) (hw : ∀ x ∈ w, x ≠ 10) (hr : rest = [] ∨ ∃ r, rest = 10 :: r) : (blow (w ++ rest)).takeWhile rkB = blow w ++ (if rest = [] then [] else [32, 35, 32, 97, 110, 100, 32, 115, 111, 32, 111, 110]) := by
  have h1 : ∀ x ∈ blow w, rkB x = true := by
    intro x hx
    unfold blow at hx
    rw [List.mem_flatMap] at hx
    obtain ⟨c, hc, hx⟩ := hx
    unfold blw at hx
    split at hx
    · simp at hx; rcases hx with rfl | rfl <;> rfl
    · rw [if_neg (hw c hc)] at hx
      simp at hx; subst hx
      unfold rkB; simpa using hw _ hc
  have h2 : ∀ (a b : List Int), (∀ x ∈ a, rkB x = true) → (a ++ b).takeWhile rkB = a ++ b.takeWhile rkB := by
    intro a b ha
    induction a with
    | nil => rfl
    | cons c a ih => rw [List.cons_append, List.takeWhile_cons, if_pos (ha c List.mem_cons_self), ih (fun x hx => ha x (List.mem_cons_of_mem _ hx))]; rfl
  rw [blow_app, h2 _ _ h1]
  rcases hr with rfl | ⟨r, rfl⟩
  · rfl
  · rfl
theorem tw_split (P : Int → Bool) (s : List Int) : ∃ rest, s = s.takeWhile P ++ rest ∧ s.drop (s.takeWhile P).length = rest ∧ (rest = [] ∨ ∃ c r, rest = c :: r ∧ P c = false) := by
  induction s with
  | nil => exact ⟨[], rfl, rfl, .inl rfl⟩
  | cons c s ih =>
    rw [List.takeWhile_cons]
    by_cases h : P c = true
    · rw [if_pos h]
      obtain ⟨rest, h1, h2, h3⟩ := ih
      exact ⟨rest, by rw [List.cons_append, ← h1], by rw [List.length_cons, List.drop_succ_cons]; exact h2, h3⟩
    · rw [if_neg h]
      exact ⟨c :: s, rfl, rfl, .inr ⟨c, s, rfl, Bool.eq_false_iff.2 h⟩⟩
/-- The tokens of a blown text. -/
def BlowT (r r' : List TOK × Int × Int × Int) : Prop := r'.2.1 = r.2.1 ∧ (r.2.1 = 0 → Dbl r.1 r'.1) ∧ (r.2.1 ≠ 0 → r'.2.2.1 = 2 * r.2.2.1 + 1)
theorem skip_tok {F : Nat} {s : List Int} {k : Nat} {t : Option (Int × ByteArray × Int)} {nl : Bool} {line col : Int} {xs : List TOK} (hs : s ≠ []) (hp : piece s = (0, k, t, nl)) : toks (F + 1) s line col xs = toks F (s.drop k) (if nl = true then line + 1 else line) (if nl = true then 1 else col + k) (xs ++ tokL t line col) := by
  rw [toks_go hs (by rw [hp]), hp]
theorem blow_toks (n : Nat) : ∀ (s : List Int), s.length ≤ n → ∀ (F G : Nat) (line col col' : Int) (xs xs' : List TOK), s.length < F → (blow s).length < G → Dbl xs xs' → BlowT (toks F s line col xs) (toks G (blow s) (2 * line + 1) col' xs') := by
  induction n with
  | zero =>
    intro s hs F G line col col' xs xs' hF hG hx
    have : s = [] := List.eq_nil_of_length_eq_zero (by omega)
    subst this
    obtain ⟨F, rfl⟩ : ∃ m, F = m + 1 := ⟨F - 1, by omega⟩
    obtain ⟨G, rfl⟩ : ∃ m, G = m + 1 := ⟨G - 1, by omega⟩
    rw [show blow [] = [] from rfl, toks_end, toks_end]
    exact ⟨rfl, fun _ => hx.app (.other _ _ _ _ (by show (4 : Int) ≠ 3; decide) ⟨rfl, rfl, rfl, rfl⟩ .nil), fun h => absurd rfl h⟩
  | succ n ih =>
    intro s hs F G line col col' xs xs' hF hG hx
    cases s with
    | nil => exact ih [] (by simp) F G line col col' xs xs' hF hG hx
    | cons c s =>
      obtain ⟨F, rfl⟩ : ∃ m, F = m + 1 := ⟨F - 1, by omega⟩
      obtain ⟨G, rfl⟩ : ∃ m, G = m + 1 := ⟨G - 1, by omega⟩
      have keep : c ≠ 32 → c ≠ 10 → blow (c :: s) = c :: blow s := fun h1 h2 => by
        rw [blow_cons]; unfold blw; rw [if_neg h1, if_neg h2]; rfl
      simp only [List.length_cons] at hs hF
      rcases piece_ways c s with h | ⟨g1, g2, ⟨v, h⟩ | h⟩ | rfl | rfl | rfl | rfl | ⟨g1, g2, g3, g4, g5, g6⟩
      · -- a word
        have hc1 : c ≠ 32 := by rintro rfl; exact absurd h (by decide)
        have hc2 : c ≠ 10 := by rintro rfl; exact absurd h (by decide)
        have hb := tw_blow (P := wdB) rfl rfl rfl (c :: s)
        have hp : piece (blow (c :: s)) = (0, ((c :: s).takeWhile wdB).length, some (1, strOfNums ((c :: s).takeWhile wdB), 0), false) := by
          rw [← hb.1, keep hc1 hc2, piece_word h]
        have h1 := takeWhile_pos wdB c s (sm_wd h)
        have h2 := takeWhile_le wdB (c :: s)
        have h3 := takeWhile_le wdB (blow (c :: s))
        rw [hb.1] at h3
        rw [skip_tok (by simp) (piece_word h), skip_tok (by rw [keep hc1 hc2]; simp) hp, hb.2, if_neg Bool.false_ne_true, if_neg Bool.false_ne_true, if_neg Bool.false_ne_true]
        refine ih _ (by rw [List.length_drop]; simp at h2 ⊢; omega) F G line _ _ _ _ (by rw [List.length_drop]; simp at h2 ⊢; omega) ?_ (hx.app (.other _ _ _ _ (by show (1 : Int) ≠ 3; decide) ⟨rfl, rfl, rfl, rfl⟩ .nil))
        rw [← hb.2, List.length_drop]; omega
      · have hc1 : c ≠ 32 := by rintro rfl; exact absurd g2 (by decide)
        have hc2 : c ≠ 10 := by rintro rfl; exact absurd g2 (by decide)
        have hb := tw_blow (P := dgB) rfl rfl rfl (c :: s)
        have hp : piece (blow (c :: s)) = (0, ((c :: s).takeWhile dgB).length, some (2, strOfNums ((c :: s).takeWhile dgB), v), false) := by
          rw [← hb.1, keep hc1 hc2] 
          refine piece_number g1 g2 ?_
          rw [← keep hc1 hc2, hb.1]; exact h
        have h1 := takeWhile_pos dgB c s g2
        have h2 := takeWhile_le dgB (c :: s)
        have h3 := takeWhile_le dgB (blow (c :: s))
        rw [hb.1] at h3
        rw [skip_tok (by simp) (piece_number g1 g2 h), skip_tok (by rw [keep hc1 hc2]; simp) hp, hb.2, if_neg Bool.false_ne_true, if_neg Bool.false_ne_true, if_neg Bool.false_ne_true]
        refine ih _ (by rw [List.length_drop]; simp at h2 ⊢; omega) F G line _ _ _ _ (by rw [List.length_drop]; simp at h2 ⊢; omega) ?_ (hx.app (.other _ _ _ _ (by show (2 : Int) ≠ 3; decide) ⟨rfl, rfl, rfl, rfl⟩ .nil))
        rw [← hb.2, List.length_drop]; omega
      · have hc1 : c ≠ 32 := by rintro rfl; exact absurd g2 (by decide)
        have hc2 : c ≠ 10 := by rintro rfl; exact absurd g2 (by decide)
        have hb := tw_blow (P := dgB) rfl rfl rfl (c :: s)
        have hp : piece (blow (c :: s)) = (2, 0, none, false) := by
          rw [keep hc1 hc2]
          refine piece_over g1 g2 ?_
          rw [← keep hc1 hc2, hb.1]; exact h
        rw [toks_err (by simp) (by rw [piece_over g1 g2 h]; decide), toks_err (by rw [keep hc1 hc2]; simp) (by rw [hp]; decide), hp, piece_over g1 g2 h]
        exact ⟨rfl, fun h => absurd h (by show ¬ (2 : Int) = 0; decide), fun _ => rfl⟩
      · -- a line's end
        have e : blow (10 :: s) = 32 :: 35 :: 32 :: 97 :: 110 :: 100 :: 32 :: 115 :: 111 :: 32 :: 111 :: 110 :: 10 :: 32 :: 10 :: blow s := rfl
        rw [e] at hG ⊢
        simp only [List.length_cons] at hG
        obtain ⟨G, rfl⟩ : ∃ m, G = m + 4 := ⟨G - 4, by omega⟩
        rw [skip_tok (by simp) (piece_line s), skip_tok (by simp) (piece_space _)]
        rw [List.drop_succ_cons, List.drop_zero, List.drop_succ_cons, List.drop_zero]
        rw [skip_tok (k := 11) (by simp) (by rw [piece_remark]; rfl), List.drop_succ_cons, List.drop_succ_cons, List.drop_succ_cons, List.drop_succ_cons, List.drop_succ_cons, List.drop_succ_cons, List.drop_succ_cons, List.drop_succ_cons, List.drop_succ_cons, List.drop_succ_cons, List.drop_succ_cons, List.drop_zero]
        rw [skip_tok (by simp) (piece_line _), List.drop_succ_cons, List.drop_zero, skip_tok (by simp) (piece_space _), List.drop_succ_cons, List.drop_zero, skip_tok (by simp) (piece_line _), List.drop_succ_cons, List.drop_zero]
        simp only [tokL, List.append_nil, if_true, Bool.false_eq_true, if_false]
        have el : 2 * line + 1 + 1 + 1 = 2 * (line + 1) + 1 := by omega
        rw [el, List.append_assoc]
        exact ih s (by omega) F G (line + 1) 1 1 _ _ (by omega) (by omega) (hx.app (.line _ _ _ _ _ rfl ⟨rfl, rfl, rfl, rfl⟩ rfl .nil))
      · -- a blank
        have e : blow (32 :: s) = 9 :: 32 :: blow s := rfl
        rw [e] at hG ⊢
        simp only [List.length_cons] at hG
        obtain ⟨G, rfl⟩ : ∃ m, G = m + 1 := ⟨G - 1, by omega⟩
        rw [skip_tok (by simp) (piece_space s), skip_tok (by simp) (piece_tab _)]
        rw [List.drop_succ_cons, List.drop_zero, List.drop_succ_cons, List.drop_zero, skip_tok (by simp) (piece_space _), List.drop_succ_cons, List.drop_zero]
        simp only [tokL, List.append_nil, Bool.false_eq_true, if_false]
        exact ih s (by omega) F G line _ _ _ _ (by omega) (by omega) hx
      · have e : blow (9 :: s) = 9 :: blow s := rfl
        rw [e] at hG ⊢
        simp only [List.length_cons] at hG
        rw [skip_tok (by simp) (piece_tab s), skip_tok (by simp) (piece_tab _)]
        rw [List.drop_succ_cons, List.drop_zero, List.drop_succ_cons, List.drop_zero]
        simp only [tokL, List.append_nil, Bool.false_eq_true, if_false]
        exact ih s (by omega) F G line _ _ _ _ (by omega) (by omega) hx
      · -- a remark
        obtain ⟨rest, r1, r2, r3⟩ := tw_split rkB (35 :: s)
        obtain ⟨w, hw⟩ : ∃ w, (35 :: s).takeWhile rkB = w := ⟨_, rfl⟩
        have hwm : ∀ x ∈ w, x ≠ 10 := by
          rw [← hw]
          rintro x hx rfl
          exact absurd (tw_mem _ hx) (by decide)
        have hrr : rest = [] ∨ ∃ r, rest = 10 :: r := by
          rcases r3 with h | ⟨c, r, h, hc⟩
          · exact .inl h
          · unfold rkB at hc; simp at hc; subst hc; exact .inr ⟨r, h⟩
        have ht := tw_remark w rest hwm hrr
        have hpos : 1 ≤ w.length := by rw [← hw]; exact takeWhile_pos rkB 35 s rfl
        rw [hw] at r1 r2
        have hl : (35 :: s).length = w.length + rest.length := by rw [r1]; simp
        simp only [List.length_cons] at hl
        rw [skip_tok (by simp) (piece_remark s), hw, r2]
        have hp : piece (blow (35 :: s)) = (0, ((blow (35 :: s)).takeWhile rkB).length, none, false) := piece_remark (blow s)
        rw [skip_tok (F := G) (by rw [keep (by decide) (by decide)]; simp) hp]
        rw [r1] at hG ⊢
        rw [ht]
        simp only [tokL, List.append_nil, Bool.false_eq_true, if_false]
        rcases hrr with rfl | ⟨r, rfl⟩
        · rw [if_pos rfl, List.append_nil, List.append_nil, List.drop_length]
          have hbw : 1 ≤ (blow w).length := by
            cases w with
            | nil => simp at hpos
            | cons a w =>
              rw [blow_cons, List.length_append]
              have : 1 ≤ (blw a).length := by unfold blw; split <;> (try split) <;> simp
              omega
          rw [List.append_nil] at hG
          exact ih [] (by simp) F G line _ _ _ _ (by simp; omega) (by show 0 < G; omega) hx
        · rw [if_neg (by simp), blow_app]
          have e : blow (10 :: r) = [32, 35, 32, 97, 110, 100, 32, 115, 111, 32, 111, 110] ++ 10 :: 32 :: 10 :: blow r := rfl
          rw [e, ← List.append_assoc, List.drop_left]
          rw [blow_app, e] at hG
          simp only [List.length_append, List.length_cons, List.length_nil] at hG
          simp only [List.length_cons] at hl
          obtain ⟨F, rfl⟩ : ∃ m, F = m + 1 := ⟨F - 1, by omega⟩
          obtain ⟨G, rfl⟩ : ∃ m, G = m + 3 := ⟨G - 3, by omega⟩
          rw [skip_tok (by simp) (piece_line r), List.drop_succ_cons, List.drop_zero]
          rw [skip_tok (by simp) (piece_line _), List.drop_succ_cons, List.drop_zero, skip_tok (by simp) (piece_space _), List.drop_succ_cons, List.drop_zero, skip_tok (by simp) (piece_line _), List.drop_succ_cons, List.drop_zero]
          simp only [tokL, List.append_nil, if_true, Bool.false_eq_true, if_false]
          have el : 2 * line + 1 + 1 + 1 = 2 * (line + 1) + 1 := by omega
          rw [el, List.append_assoc]
          exact ih r (by omega) F G (line + 1) 1 1 _ _ (by omega) (by omega) (hx.app (.line _ _ _ _ _ rfl ⟨rfl, rfl, rfl, rfl⟩ rfl .nil))
      · have hc1 : c ≠ 32 := g4
        have hc2 : c ≠ 10 := g3
        rw [keep hc1 hc2]
        rw [toks_err (by simp) (by rw [piece_bad g1 g2 g3 g4 g5 g6]; decide), toks_err (by simp) (by rw [piece_bad g1 g2 g3 g4 g5 g6]; decide), piece_bad g1 g2 g3 g4 g5 g6, piece_bad g1 g2 g3 g4 g5 g6]
        exact ⟨rfl, fun h => absurd h (by show ¬ (5 : Int) = 0; decide), fun _ => rfl⟩
-- the parser on both
structure Sim (p q : PS) : Prop where
  l : Dbl p.l q.l
  e : q.e = p.e
  ln : p.e ≠ 0 → q.ln = 2 * p.ln + 1
  b : q.b = p.b
  ts : q.ts = p.ts
  hl : q.hs.length = p.hs.length
  hs : ∀ i, i < p.hs.length → RT (p.hs.getD i z46) (q.hs.getD i z46)
theorem Dbl.now {l l' : List TOK} (h : Dbl l l') (hn : l ≠ []) : RT (l.headD z46) (l'.headD z46) := by
  cases h with
  | nil => exact absurd rfl hn
  | line a b c r r' ha hb hc h => exact hb
  | other a b r r' ha hb h => exact hb
section
variable {p q : PS}
theorem Sim.now (h : Sim p q) (hn : p.l ≠ []) : RT p.now q.now := h.l.now hn
theorem Sim.fits (h : Sim p q) (hn : p.l ≠ []) (k : Int) (tx : List ByteArray) : q.fits k tx = p.fits k tx := by
  obtain ⟨h0, h1, -, -⟩ := h.now hn
  unfold PS.fits
  rw [h.e, h0, h1]
theorem Sim.fail (h : Sim p q) (hn : p.l ≠ []) : Sim p.fail q.fail := by
  have hr := h.now hn
  unfold PS.fail
  rw [h.e]
  split
  · exact ⟨h.l, rfl, fun _ => hr.2.2.2, h.b, h.ts, h.hl, h.hs⟩
  · exact h
theorem Sim.take (h : Sim p q) (hn : p.l ≠ []) (k : Int) (hk : k ≠ 3) (tx : List ByteArray) : Sim (p.take k tx).1 (q.take k tx).1 ∧ (q.take k tx).2.f1 = (p.take k tx).2.f1 ∧ (q.take k tx).2.f2 = (p.take k tx).2.f2 := by
  have hr := h.now hn
  unfold PS.take
  rw [h.fits hn]
  by_cases hf : p.fits k tx = true
  · rw [if_pos hf, if_pos hf]
    have hk0 : p.now.f0 = k := by unfold PS.fits at hf; simp at hf; exact hf.1.2
    refine ⟨⟨?_, h.e, h.ln, h.b, h.ts, h.hl, h.hs⟩, hr.2.1, hr.2.2.1⟩
    have hl := h.l
    show Dbl p.l.tail q.l.tail
    obtain ⟨pl, hpl⟩ : ∃ pl, p.l = pl := ⟨_, rfl⟩
    obtain ⟨ql, hql⟩ : ∃ ql, q.l = ql := ⟨_, rfl⟩
    have hk1 : (pl.headD z46).f0 = k := by rw [← hpl]; exact hk0
    rw [hpl, hql] at hl ⊢
    cases hl with
    | nil => exact .nil
    | line a b c r r' ha hb hc h2 => exact absurd (hk1.symm.trans ha) hk
    | other a b r r' ha hb h2 => exact h2
  · rw [if_neg hf, if_neg hf]
    exact ⟨h.fail hn, rfl, rfl⟩
theorem Sim.nums (h : Sim p q) (hE : Ends p.l) : ∀ n, Sim (PS.nums n p).1 (PS.nums n q).1 ∧ (PS.nums n q).2 = (PS.nums n p).2
  | 0 => ⟨h, rfl⟩
  | n + 1 => by
    obtain ⟨h1, h2⟩ := h.nums hE n
    obtain ⟨h3, -, h4⟩ := h1.take (nums_ends n p hE).ne 2 (by decide) []
    refine ⟨h3, ?_⟩
    show (PS.nums n q).2 ++ [((PS.nums n q).1.take 2 []).2.f2] = (PS.nums n p).2 ++ [((PS.nums n p).1.take 2 []).2.f2]
    rw [h2, h4]
theorem Dbl.blank {l l' : List TOK} (h : Dbl l l') : Dbl (l.dropWhile (fun t => t.f0 == 3)) (l'.dropWhile (fun t => t.f0 == 3)) := by
  induction h with
  | nil => exact .nil
  | line a b c r r' ha hb hc _ ih =>
    rw [List.dropWhile_cons, if_pos (by simpa using ha), List.dropWhile_cons, if_pos (by simpa using hb.1.trans ha), List.dropWhile_cons, if_pos (by simpa using hc)]
    exact ih
  | other a b r r' ha hb h _ =>
    rw [List.dropWhile_cons, if_neg (by simpa using ha), List.dropWhile_cons, if_neg (by rw [hb.1]; simpa using ha)]
    exact .other a b r r' ha hb h
theorem Sim.blank (h : Sim p q) : Sim p.blank q.blank := ⟨h.l.blank, h.e, h.ln, h.b, h.ts, h.hl, h.hs⟩
/-- A line's end, and blank lines behind it. -/
theorem Sim.fin (h : Sim p q) (hn : p.l ≠ []) : Sim p.fin.blank q.fin.blank := by
  have hr := h.now hn
  unfold PS.fin
  rw [h.e, hr.1]
  by_cases h4 : p.e = 0 ∧ p.now.f0 = 4
  · rw [if_pos h4, if_pos h4]; exact h.blank
  · rw [if_neg h4, if_neg h4]
    unfold PS.take
    rw [h.fits hn]
    by_cases hf : p.fits 3 [] = true
    · rw [if_pos hf, if_pos hf]
      have hk0 : p.now.f0 = 3 := by unfold PS.fits at hf; simp at hf; exact hf.2
      refine ⟨?_, h.e, h.ln, h.b, h.ts, h.hl, h.hs⟩
      have hl := h.l
      show Dbl (p.l.tail.dropWhile _) (q.l.tail.dropWhile _)
      obtain ⟨pl, hpl⟩ : ∃ pl, p.l = pl := ⟨_, rfl⟩
      obtain ⟨ql, hql⟩ : ∃ ql, q.l = ql := ⟨_, rfl⟩
      have hk1 : (pl.headD z46).f0 = 3 := by rw [← hpl]; exact hk0
      rw [hpl, hql] at hl ⊢
      cases hl with
      | nil => exact .nil
      | line a b c r r' ha hb hc h2 =>
        rw [List.tail_cons, List.tail_cons, List.dropWhile_cons (x := c), if_pos (by simpa using hc)]
        exact h2.blank
      | other a b r r' ha hb h2 => exact absurd hk1 ha
    · rw [if_neg hf, if_neg hf]
      exact (h.fail hn).blank
theorem Sim.one (h : Sim p q) (hE : Ends p.l) : Sim p.one.blank q.one.blank := by
  have hr := h.now hE.ne
  obtain ⟨p1, hp1⟩ : ∃ p1 : PS, { p with hs := p.hs ++ [p.now] } = p1 := ⟨_, rfl⟩
  obtain ⟨q1, hq1⟩ : ∃ q1 : PS, { q with hs := q.hs ++ [q.now] } = q1 := ⟨_, rfl⟩
  have h1 : Sim p1 q1 := by
    rw [← hp1, ← hq1]
    refine ⟨h.l, h.e, h.ln, h.b, h.ts, ?_, ?_⟩
    · show (q.hs ++ [q.now]).length = (p.hs ++ [p.now]).length
      simp [h.hl]
    · intro i hi
      simp only [List.length_append, List.length_cons, List.length_nil] at hi
      show RT ((p.hs ++ [p.now]).getD i _) ((q.hs ++ [q.now]).getD i _)
      by_cases hlt : i < p.hs.length
      · have h2 := h.hs i hlt
        rw [List.getD_eq_getElem?_getD, List.getD_eq_getElem?_getD] at h2 ⊢
        rw [List.getElem?_append_left hlt, List.getElem?_append_left (by rw [h.hl]; exact hlt)]
        exact h2
      · have : i = p.hs.length := by omega
        subst this
        rw [List.getD_eq_getElem?_getD, List.getD_eq_getElem?_getD, List.getElem?_append_right (Nat.le_refl _), List.getElem?_append_right (by rw [h.hl]; exact Nat.le_refl _), h.hl]
        simpa using hr
  have E1 : Ends p1.l := by rw [← hp1]; exact hE
  obtain ⟨h2, -, -⟩ := h1.take E1.ne 1 (by decide) [wTask]
  have E2 := take_ends E1 1 (by decide) [wTask]
  obtain ⟨h3, y3, -⟩ := h2.take E2.ne 1 (by decide) []
  have E3 := take_ends E2 1 (by decide) []
  obtain ⟨h4, y4⟩ := h3.nums E3 3
  have E4 := nums_ends 3 _ E3
  obtain ⟨h5, y5, -⟩ := h4.take E4.ne 1 (by decide) [wRetry, wBlock, wBackup]
  have E5 := take_ends E4 1 (by decide) [wRetry, wBlock, wBackup]
  obtain ⟨h6, y6⟩ := h5.nums E5 6
  have E6 := nums_ends 6 _ E5
  have h7 := h6.fin E6.ne
  unfold PS.one
  simp only [hp1, hq1, y3, y4, y5, y6]
  refine ⟨h7.l, h7.e, h7.ln, h7.b, ?_, h7.hl, h7.hs⟩
  have := h7.ts
  show _ ++ _ = _ ++ _
  rw [show ∀ x : PS, x.blank.ts = x.ts from fun _ => rfl] at this
  rw [this]
  rfl
theorem Sim.first (h : Sim p q) (hE : Ends p.l) : Sim p.first.blank q.first.blank ∧ RT p.first.bt q.first.bt := by
  obtain ⟨h1, -, -⟩ := h.take hE.ne 1 (by decide) [wBurst]
  have E1 := take_ends hE 1 (by decide) [wBurst]
  obtain ⟨p1, hp1⟩ : ∃ p1, (p.take 1 [wBurst]).1 = p1 := ⟨_, rfl⟩
  obtain ⟨q1, hq1⟩ : ∃ q1, (q.take 1 [wBurst]).1 = q1 := ⟨_, rfl⟩
  rw [hp1] at h1 E1
  rw [hq1] at h1
  have hr := h1.now E1.ne
  have h2 : Sim { p1 with bt := p1.now } { q1 with bt := q1.now } := ⟨h1.l, h1.e, h1.ln, h1.b, h1.ts, h1.hl, h1.hs⟩
  obtain ⟨h3, -, y3⟩ := h2.take (p := { p1 with bt := p1.now }) E1.ne 2 (by decide) []
  have E2 := take_ends (p := { p1 with bt := p1.now }) E1 2 (by decide) []
  obtain ⟨u, hu⟩ : ∃ u, ({ p1 with bt := p1.now } : PS).take 2 [] = u := ⟨_, rfl⟩
  obtain ⟨v, hv⟩ : ∃ v, ({ q1 with bt := q1.now } : PS).take 2 [] = v := ⟨_, rfl⟩
  have hub : u.1.bt = p1.now := by rw [← hu]; exact (take_hs _ 2 []).2.2.2
  have hvb : v.1.bt = q1.now := by rw [← hv]; exact (take_hs _ 2 []).2.2.2
  rw [hu, hv] at h3 y3
  rw [hu] at E2
  have ep : p.first = ({ u.1 with b := u.2.f2 } : PS).fin := by
    unfold PS.first PS.num
    simp only [hp1, hu]
  have eq : q.first = ({ v.1 with b := v.2.f2 } : PS).fin := by
    unfold PS.first PS.num
    simp only [hq1, hv]
  have h4 : Sim { u.1 with b := u.2.f2 } { v.1 with b := v.2.f2 } := ⟨h3.l, h3.e, h3.ln, y3, h3.ts, h3.hl, h3.hs⟩
  have fb : ∀ x : PS, x.fin.bt = x.bt := by
    intro x
    unfold PS.fin
    split
    · rfl
    · exact (take_hs _ 3 []).2.2.2
  rw [ep, eq]
  refine ⟨h4.fin E2.ne, ?_⟩
  rw [fb, fb]
  show RT u.1.bt v.1.bt
  rw [hub, hvb]; exact hr
theorem Sim.go : ∀ (n m : Nat) (p q : PS), Sim p q → RT p.bt q.bt → Ends p.l → p.l.length ≤ n → q.l.length ≤ m → Sim (PS.go n p) (PS.go m q) ∧ RT (PS.go n p).bt (PS.go m q).bt ∧ Ends (PS.go n p).l
  | 0, _, p, _, _, _, hE, hl, _ => absurd (List.eq_nil_of_length_eq_zero (Nat.le_zero.1 hl)) hE.ne
  | n + 1, m, p, q, h, hb, hE, hl, hm => by
    have hqn : q.l ≠ [] := by
      have := h.l
      intro e
      rw [e] at this
      obtain ⟨pl, hpl⟩ : ∃ pl, p.l = pl := ⟨_, rfl⟩
      rw [hpl] at this
      cases this
      exact hE.ne hpl
    obtain ⟨m, rfl⟩ : ∃ j, m = j + 1 := ⟨m - 1, by have := List.length_pos_iff.2 hqn; omega⟩
    have hr := h.now hE.ne
    rw [PS.go, PS.go, h.e, hr.1]
    by_cases hc : p.e = 0 ∧ p.now.f0 ≠ 4
    · rw [if_pos hc, if_pos hc]
      have ho := h.one hE
      have hob : RT p.one.blank.bt q.one.blank.bt := by
        show RT p.one.bt q.one.bt
        rw [one_bt, one_bt]; exact hb
      by_cases hoe : p.one.e = 0
      · have h2 := one_len p hE.ne hoe
        have h3 := blank_len p.one
        have h2' := one_len q hqn (ho.e.trans hoe)
        have h3' := blank_len q.one
        exact Sim.go n m _ _ ho hob (blank_ends (one_ends hE)) (by omega) (by omega)
      · have hoe' : q.one.blank.e ≠ 0 := by rw [ho.e]; exact hoe
        rw [go_bad n p.one.blank hoe, go_bad m q.one.blank hoe']
        exact ⟨ho, hob, blank_ends (one_ends hE)⟩
    · rw [if_neg hc, if_neg hc]
      exact ⟨h, hb, hE⟩
theorem Sim.wrong (h : Sim p q) (hb : RT p.bt q.bt) (hE : Ends p.l) (hl : p.hs.length = p.ts.length) : q.wrong.1 = p.wrong.1 ∧ (p.wrong.1 ≠ 0 → q.wrong.2.1 = 2 * p.wrong.2.1 + 1) := by
  unfold PS.wrong
  simp only
  rw [h.b, h.ts, h.hl]
  by_cases h0 : (whyS p.b p.ts).1 = 0
  · rw [if_pos h0, if_pos h0]; exact ⟨rfl, fun h => absurd rfl h⟩
  · rw [if_neg h0, if_neg h0]
    refine ⟨rfl, fun _ => ?_⟩
    rcases whyS_range p.b p.ts with h1 | h1 | ⟨h1, h2⟩ | ⟨h1, h2, h3⟩
    · exact absurd h1 h0
    · simp only [if_pos h1]; exact hb.2.2.2
    · have hn1 : ¬ (whyS p.b p.ts).1 = 1 := by omega
      simp only [if_neg hn1, if_pos h1]
      by_cases h3 : 0 < p.hs.length
      · rw [if_pos h3, if_pos h3]; exact (h.hs 16 (by omega)).2.2.2
      · rw [if_neg h3, if_neg h3]; exact (h.now hE.ne).2.2.2
    · have hn1 : ¬ (whyS p.b p.ts).1 = 1 := by omega
      have hn2 : ¬ (whyS p.b p.ts).1 = 2 := by omega
      simp only [if_neg hn1, if_neg hn2]
      exact (h.hs _ (by omega)).2.2.2
end
theorem Dbl.ends {l l' : List TOK} (h : Dbl l l') (hE : Ends l) : l' ≠ [] := by
  cases h with
  | nil => exact absurd rfl hE.ne
  | line => simp
  | other => simp
/-- A blown text is the same set; where it isn't one, it fails alike, further down. -/
theorem blow_parse (l : List Int) : ∃ f2 f3, parseF ([35, 32, 97, 32, 114, 101, 109, 97, 114, 107, 10, 10] ++ blow l) = ((parseF l).1, (parseF l).2.1, (parseF l).2.2.1, f2, f3) ∧ ((parseF l).2.2.1 ≠ 0 → (parseF l).2.2.2.1 < f2) := by
  obtain ⟨H, hH⟩ : ∃ H : List Int, [35, 32, 97, 32, 114, 101, 109, 97, 114, 107, 10, 10] ++ blow l = H := ⟨_, rfl⟩
  -- the tokens
  have hl0 : lexToks H = toks ((blow l).length + 10) (blow l) 3 1 [⟨3, (⟨#[]⟩ : ByteArray), 0, 1, 11⟩, ⟨3, (⟨#[]⟩ : ByteArray), 0, 2, 1⟩] := by
    unfold lexToks
    rw [← hH]
    have e : ([35, 32, 97, 32, 114, 101, 109, 97, 114, 107, 10, 10] ++ blow l).length + 1 = (blow l).length + 10 + 1 + 1 + 1 := by simp
    rw [e]
    show toks _ (35 :: 32 :: 97 :: 32 :: 114 :: 101 :: 109 :: 97 :: 114 :: 107 :: 10 :: 10 :: blow l) 1 1 [] = _
    rw [skip_tok (k := 10) (by simp) (by rw [piece_remark]; rfl), List.drop_succ_cons, List.drop_succ_cons, List.drop_succ_cons, List.drop_succ_cons, List.drop_succ_cons, List.drop_succ_cons, List.drop_succ_cons, List.drop_succ_cons, List.drop_succ_cons, List.drop_succ_cons, List.drop_zero]
    rw [skip_tok (by simp) (piece_line _), List.drop_succ_cons, List.drop_zero, skip_tok (by simp) (piece_line _), List.drop_succ_cons, List.drop_zero]
    rfl
  have hT := blow_toks l.length l (Nat.le_refl _) (l.length + 1) ((blow l).length + 10) 1 1 1 [] [] (by omega) (by omega) .nil
  have hsh : ∀ (F : Nat) (s : List Int) (ln cl : Int) (P xs : List TOK), s.length < F → toks F s ln cl (P ++ xs) = if (toks F s ln cl xs).2.1 = 0 then (P ++ (toks F s ln cl xs).1, 0, 0, 0) else ([], (toks F s ln cl xs).2.1, (toks F s ln cl xs).2.2.1, (toks F s ln cl xs).2.2.2) := by
    intro F s ln cl P xs hF
    have h := toks_shift F s hF ln 0 cl P xs
    have e : ∀ t : List TOK, t.map (shL 0) = t := by
      intro t
      have : shL 0 = id := by funext x; unfold shL; simp
      rw [this, List.map_id]
    rw [e, e] at h
    simpa using h
  have hs2 := hsh ((blow l).length + 10) (blow l) 3 1 [⟨3, (⟨#[]⟩ : ByteArray), 0, 1, 11⟩, ⟨3, (⟨#[]⟩ : ByteArray), 0, 2, 1⟩] [] (by omega)
  rw [List.append_nil, ← hl0] at hs2
  obtain ⟨U, hU⟩ : ∃ U, toks ((blow l).length + 10) (blow l) 3 1 [] = U := ⟨_, rfl⟩
  have hU' : toks ((blow l).length + 10) (blow l) (2 * 1 + 1) 1 [] = U := hU
  rw [hU'] at hT
  rw [hU] at hs2
  have hTL : toks (l.length + 1) l 1 1 [] = lexToks l := rfl
  rw [hTL] at hT
  obtain ⟨t1, t2, t3⟩ := hT
  have hLI := lexI l
  rw [hH]
  unfold parseF
  rw [hs2, t1]
  by_cases h0 : (lexToks l).2.1 = 0
  · simp only [if_pos h0, if_true]
    have hD := t2 h0
    obtain ⟨ys, L, C, e1, e2, e3, e4, e5⟩ := hLI.1 h0
    obtain ⟨T, hT⟩ : ∃ T, (lexToks l).1 = T := ⟨_, rfl⟩
    rw [hT] at hD e1 ⊢
    obtain ⟨V, hV⟩ : ∃ V : List TOK, [⟨3, (⟨#[]⟩ : ByteArray), 0, 1, 11⟩, ⟨3, (⟨#[]⟩ : ByteArray), 0, 2, 1⟩] ++ U.1 = V := ⟨_, rfl⟩
    rw [hV]
    have hE : Ends T := ⟨ys, _, e1, rfl⟩
    have hS0 : Sim (PS.init T).blank (PS.init V).blank := by
      refine ⟨?_, rfl, fun h => absurd rfl h, rfl, rfl, rfl, fun i hi => absurd hi (Nat.not_lt_zero i)⟩
      show Dbl (T.dropWhile _) (V.dropWhile _)
      rw [← hV]
      exact hD.blank
    have hE1 : Ends (PS.init T).blank.l := blank_ends (p := PS.init T) hE
    obtain ⟨hS1, hB1⟩ := hS0.first hE1
    have hE2 : Ends (PS.init T).blank.first.blank.l := blank_ends (first_ends hE1)
    have hVl : (PS.init V).blank.first.blank.l.length ≤ V.length := Nat.le_trans (blank_len _) (Nat.le_trans (first_len _) (blank_len _))
    have hTl : (PS.init T).blank.first.blank.l.length ≤ T.length := Nat.le_trans (blank_len _) (Nat.le_trans (first_len _) (blank_len _))
    obtain ⟨hS, hB, hEF⟩ := Sim.go T.length V.length _ _ hS1 hB1 hE2 hTl hVl
    -- places
    have hK : Keeps (fun t => 1 ≤ t.f3) (PS.init T) := by
      refine ⟨fun t ht => ?_, hE, fun t ht => (by cases ht), fun he => absurd rfl he⟩
      have ht : t ∈ T := ht
      rw [e1] at ht
      rcases List.mem_append.1 ht with ht | ht
      · have := (e5 t ht).1; unfold Good at this; exact this.2.2.1
      · simp at ht; subst ht; exact e2
    have k1 := first_keeps (blank_keeps hK)
    have hh := first_hs (PS.init T).blank
    have hlen : (PS.init T).blank.first.blank.hs.length = (PS.init T).blank.first.blank.ts.length := by
      show (PS.init T).blank.first.hs.length = (PS.init T).blank.first.ts.length
      rw [hh.1, hh.2]; rfl
    have k2 := go_keeps T.length _ (blank_keeps k1.1) k1.2 hlen
    unfold parseToks
    simp only
    obtain ⟨F, hF⟩ : ∃ F, PS.go T.length (PS.init T).blank.first.blank = F := ⟨_, rfl⟩
    obtain ⟨G, hG⟩ : ∃ G, PS.go V.length (PS.init V).blank.first.blank = G := ⟨_, rfl⟩
    rw [hF] at hS hB hEF k2 ⊢
    rw [hG] at hS hB ⊢
    rw [hS.e]
    by_cases he : F.e = 0
    · simp only [if_pos he]
      have hw := hS.wrong hB hEF k2.2.2
      rw [hw.1]
      by_cases hw0 : F.wrong.1 = 0
      · rw [if_pos hw0, if_pos hw0]
        refine ⟨0, 0, by rw [hS.b, hS.ts], fun h => absurd rfl h⟩
      · rw [if_neg hw0, if_neg hw0]
        refine ⟨G.wrong.2.1, G.wrong.2.2, by show (0, [], G.wrong) = _; rw [← hw.1], fun _ => ?_⟩
        obtain ⟨t, ht, g1, -⟩ := wrong_place k2.1 k2.2.1 k2.2.2 hw0
        have := hw.2 hw0
        show F.wrong.2.1 < G.wrong.2.1
        rw [this, g1]; omega
    · simp only [if_neg he]
      refine ⟨G.ln, G.cl, rfl, fun _ => ?_⟩
      obtain ⟨t, ht, g1, -⟩ := k2.1.2.2.2 he
      have := hS.ln he
      show F.ln < G.ln
      rw [this, g1]; omega
  · simp only [if_neg h0]
    have := t3 h0
    have h1 := hLI.2 h0
    exact ⟨U.2.2.1, U.2.2.2, rfl, fun _ => by show (lexToks l).2.2.1 < U.2.2.1; omega⟩
end Go.Proofs.YtddbkcfdfgehkaaDoor.Q
