-- Texts of this claim, put together: HparsG, LparsU, LparsV.
import Derived.Test.YtddbkcfdfgehkaaDoorM0
import Derived.Test.YtddbkcfdfgehkaaDoorHparsF
import Derived.Test.YtddbkcfdfgehkaaDoorM10
import Derived.Test.YtddbkcfdfgehkaaDoorM1
import Derived.Test.YtddbkcfdfgehkaaDoorHparsE
-- parse.Set and parse.Mode, in the printer's own form.
namespace Go.Proofs.YtddbkcfdfgehkaaDoor.Q
open Go.RowKit Go.Proofs.YtddbkcfdfgehkaaDoorW.PrintWords Go.Proofs.YtddbkcfdfgehkaaDoorW.PrintLast Go.Proofs.YtddbkcfdfgehkaaDoorW.PrintMore
attribute [local go_sem] max2_int min2_int max_two min_two max_three min_three max_four min_four   -- for this text's walks alone
set_option linter.unusedVariables false
set_option linter.unusedSimpArgs false

def parse_Mode.f (a0 : ByteArray) : Option Int := some (modeOf a0)
theorem parse_Mode.calls (a0 : ByteArray) (r : Int) (w : World) (h : parse_Mode.f a0 = some r) :
    Calls Tryd.prog 14 #[.string a0] w fun e w' => e = .returned (.int .i64 r) ∧ Below w.heap.size w w' := by
  obtain rfl := Option.some.inj h
  exact mode_ask a0 w
def parse_Set.f (l0 : List Int) : Option (Int × (List (S40)) × Int × Int × Int) := if okBytes l0 = true ∧ l0.length ≤ 100000 then some (parseF l0) else none
theorem parse_Set.calls (A0 : Option Addr) (c0 : Nat) (l0 : List Int) (r1 : Int) (r2 : List (S40)) (r3 : Int) (r4 : Int) (r5 : Int) (w : World) (hr0 : Kd.C (Kd.int .u8) w A0 l0.length l0) (hc0 : l0.length ≤ c0) (h : parse_Set.f l0 = some (r1, r2, r3, r4, r5)) :
    Calls Tryd.prog 10 #[.slice A0 l0.length c0] w fun e w' => ∃ v0_ : Value, e = .returned (.tuple #[.agg #[.int .i64 r1, v0_], .agg #[.int .i64 r3, .int .i64 r4, .int .i64 r5]]) ∧ Kd.R k40 40 w' w.heap.size (fun _ => True) v0_ r2 ∧ Below w.heap.size w w' := by
  unfold parse_Set.f at h
  split at h
  case isFalse => exact absurd h (by simp)
  case isTrue hcond =>
  have h2 := Option.some.inj h
  have e1 : (parseF l0).1 = r1 := by rw [h2]
  have e2 : (parseF l0).2.1 = r2 := by rw [h2]
  have e3 : (parseF l0).2.2.1 = r3 := by rw [h2]
  have e4 : (parseF l0).2.2.2.1 = r4 := by rw [h2]
  have e5 : (parseF l0).2.2.2.2 = r5 := by rw [h2]
  rw [← e1, ← e2, ← e3, ← e4, ← e5]
  exact set_ask A0 c0 l0 w hr0 hc0 hcond.1 hcond.2
end Go.Proofs.YtddbkcfdfgehkaaDoor.Q

-- What holds of a text's tokens, and of a text behind itself (no program in sight).
namespace Go.Proofs.YtddbkcfdfgehkaaDoor.Q
open Go.RowKit Go.Proofs.YtddbkcfdfgehkaaDoorW.PrintWords Go.Proofs.YtddbkcfdfgehkaaDoorW.PrintLast Go.Proofs.YtddbkcfdfgehkaaDoorW.PrintMore
attribute [local go_sem] max2_int min2_int max_two min_two max_three min_three max_four min_four   -- for this text's walks alone
set_option linter.unusedVariables false
set_option linter.unusedSimpArgs false

def Good (N : Nat) (t : TOK) : Prop := 1 ≤ t.f0 ∧ t.f0 ≤ 4 ∧ 1 ≤ t.f3 ∧ 1 ≤ t.f4 ∧ t.f4 ≤ N + 1
theorem piece_kinds {s : List Int} (hs : s ≠ []) (he : (piece s).1 = 0) : (piece s).2.2.1 = none ∨ ∃ k x v, (k = 1 ∨ k = 2 ∨ k = 3) ∧ (piece s).2.2.1 = some (k, x, v) := by
  rcases piece_adds hs he with ⟨-, -, -, h⟩ | ⟨-, -, h | ⟨k, x, v, hk, h⟩⟩
  · exact .inr ⟨3, _, _, .inr (.inr rfl), h⟩
  · exact .inl h
  · exact .inr ⟨k, x, v, by omega, h⟩
theorem toksI (N : Nat) (f : Nat) : ∀ (s : List Int) (line col : Int) (xs : List TOK), s.length < f → 1 ≤ line → 1 ≤ col → col + s.length ≤ N + 1 →
    ((toks f s line col xs).2.1 = 0 → ∃ (ys : List TOK) (L C : Int), (toks f s line col xs).1 = xs ++ ys ++ [⟨4, (⟨#[]⟩ : ByteArray), 0, L, C⟩] ∧ 1 ≤ L ∧ 1 ≤ C ∧ C ≤ N + 1 ∧ ∀ t ∈ ys, Good N t ∧ t.f0 ≤ 3) ∧
    ((toks f s line col xs).2.1 ≠ 0 → 1 ≤ (toks f s line col xs).2.2.1 ∧ 1 ≤ (toks f s line col xs).2.2.2 ∧ (toks f s line col xs).2.2.2 ≤ N + 1) := by
  induction f with
  | zero => intro s _ _ _ h; omega
  | succ f ih =>
    intro s line col xs h h1 h2 h3
    simp only [toks]
    by_cases hs : s = []
    · subst hs
      rw [if_pos rfl]
      refine ⟨fun _ => ⟨[], line, col, by simp, h1, h2, by simp at h3; exact h3, by simp⟩, fun h => absurd rfl h⟩
    · rw [if_neg hs]
      by_cases he : (piece s).1 ≠ 0
      · rw [if_pos he]
        exact ⟨fun h => absurd h he, fun _ => ⟨h1, h2, by show col ≤ N + 1; omega⟩⟩
      · rw [if_neg he]
        have he0 : (piece s).1 = 0 := by omega
        have p1 := piece_pos hs he0
        have p2 := piece_le s
        have hlen : (s.drop (piece s).2.1).length = s.length - (piece s).2.1 := List.length_drop ..
        have hk : ∀ t ∈ tokL (piece s).2.2.1 line col, Good N t ∧ t.f0 ≤ 3 := by
          intro t ht
          rcases piece_kinds hs he0 with hp | ⟨k, x, v, hk, hp⟩
          · rw [hp] at ht; cases ht
          · rw [hp] at ht
            simp only [tokL, List.mem_cons, List.not_mem_nil, or_false] at ht
            subst ht
            exact ⟨⟨by show 1 ≤ k; omega, by show k ≤ 4; omega, h1, h2, by show col ≤ N + 1; omega⟩, by show k ≤ 3; omega⟩
        have h4 := ih (s.drop (piece s).2.1) (if (piece s).2.2.2 = true then line + 1 else line) (if (piece s).2.2.2 = true then 1 else col + (piece s).2.1) (xs ++ tokL (piece s).2.2.1 line col) (by omega) (by split <;> omega) (by split <;> omega) (by rw [hlen]; split <;> omega)
        refine ⟨fun h => ?_, h4.2⟩
        obtain ⟨ys, L, C, g1, g2, g3, g4, g5⟩ := h4.1 h
        refine ⟨tokL (piece s).2.2.1 line col ++ ys, L, C, by rw [g1]; simp, g2, g3, g4, fun t ht => ?_⟩
        rcases List.mem_append.1 ht with ht | ht
        · exact hk t ht
        · exact g5 t ht
theorem lexI (l : List Int) : ((lexToks l).2.1 = 0 → ∃ (ys : List TOK) (L C : Int), (lexToks l).1 = ys ++ [⟨4, (⟨#[]⟩ : ByteArray), 0, L, C⟩] ∧ 1 ≤ L ∧ 1 ≤ C ∧ C ≤ l.length + 1 ∧ ∀ t ∈ ys, Good l.length t ∧ t.f0 ≤ 3) ∧
    ((lexToks l).2.1 ≠ 0 → 1 ≤ (lexToks l).2.2.1 ∧ 1 ≤ (lexToks l).2.2.2 ∧ (lexToks l).2.2.2 ≤ l.length + 1) := by
  have h := toksI l.length (l.length + 1) l 1 1 [] (by omega) (by omega) (by omega) (by omega)
  unfold lexToks
  refine ⟨fun h0 => ?_, h.2⟩
  obtain ⟨ys, L, C, g⟩ := h.1 h0
  exact ⟨ys, L, C, by simpa using g⟩
theorem twice_toks (a b : List Int) (ha : (lexToks a).2.1 = 0) (hb : (lexToks b).2.1 = 0) : ∃ ys C, (lexToks a).1 = ys ++ [⟨4, (⟨#[]⟩ : ByteArray), 0, 1 + (cnt a : Int), C⟩] ∧ Inner ys ∧ lexToks (a ++ 10 :: b) = (ys ++ ⟨3, (⟨#[]⟩ : ByteArray), 0, 1 + (cnt a : Int), C⟩ :: (lexToks b).1.map (shL (1 + (cnt a : Int))), 0, 0, 0) := by
  have hlen : (a ++ 10 :: b).length = a.length + (b.length + 1) := by simp
  cases way _ a (Nat.le_refl _) 1 1 (Int.le_refl _) with
  | err e l c he hl hc g0 g1 g2 =>
    have e1 : lexToks a = ([], e, l, c) := g0 _ _ (by omega)
    rw [e1] at ha
    have ha' : e = 0 := ha
    omega
  | ok ys C hn hk hy g0 g1 g2 =>
    have e1 : lexToks a = ([] ++ ys ++ [⟨4, (⟨#[]⟩ : ByteArray), 0, 1 + (cnt a : Int), C⟩], 0, 0, 0) := g0 _ _ (by omega)
    have e2 : lexToks (a ++ 10 :: b) = toks (b.length + 1) b (1 + (cnt a : Int) + 1) 1 ([] ++ ys ++ [⟨3, (⟨#[]⟩ : ByteArray), 0, 1 + (cnt a : Int), C⟩]) := g1 _ _ b (by omega)
    have hs := toks_shift (b.length + 1) b (by omega) 1 (1 + (cnt a : Int)) 1 (ys ++ [⟨3, (⟨#[]⟩ : ByteArray), 0, 1 + (cnt a : Int), C⟩]) []
    rw [List.map_nil, List.append_nil, show (1 : Int) + (1 + (cnt a : Int)) = 1 + (cnt a : Int) + 1 from by omega] at hs
    have e3 := e2
    rw [List.nil_append, hs] at e3
    refine ⟨ys, C, by rw [e1]; rfl, fun t ht => by have := hk t ht; omega, ?_⟩
    rw [e3]; unfold lexToks at hb; rw [if_pos hb]; unfold lexToks; simp
/-- A text that is read, behind itself. -/
theorem read_twice (l : List Int) (h : (parseF l).2.2.1 = 0) : ∃ ln cl, parseF (l ++ 10 :: l) = (0, [], 5, ln, cl) ∧ 1 + (cnt l : Int) < ln ∧ 1 ≤ cl := by
  have h0 : (lexToks l).2.1 = 0 := by
    rcases Decidable.em ((lexToks l).2.1 = 0) with h1 | h1
    · exact h1
    · unfold parseF at h; rw [if_neg h1] at h; exact absurd h h1
  obtain ⟨ys, C, g1, g2, g3⟩ := twice_toks l l h0 h0
  unfold parseF at h ⊢
  rw [if_pos h0] at h
  rw [g3]
  rw [g1] at h ⊢
  obtain ⟨a, ha, hp⟩ := parse_twice (t := ⟨4, (⟨#[]⟩ : ByteArray), 0, 1 + (cnt l : Int), C⟩) (nl := ⟨3, (⟨#[]⟩ : ByteArray), 0, 1 + (cnt l : Int), C⟩) ys rfl rfl g2 (1 + (cnt l : Int)) (shL (1 + (cnt l : Int))) (fun a => ⟨rfl, rfl, rfl, rfl⟩) h
  refine ⟨a.f3 + (1 + (cnt l : Int)), a.f4, hp, ?_⟩
  obtain ⟨ys', L, C', e1, e2, e3, e4, e5⟩ := (lexI l).1 h0
  rw [← g1, e1] at ha
  rcases List.mem_append.1 ha with ha | ha
  · have := (e5 a ha).1; unfold Good at this; omega
  · simp only [List.mem_cons, List.not_mem_nil, or_false] at ha
    subst ha
    exact ⟨by show 1 + (cnt l : Int) < L + (1 + (cnt l : Int)); omega, e3⟩
end Go.Proofs.YtddbkcfdfgehkaaDoor.Q

-- What holds of a parser's answer: its places, and how many tasks it has (no program in sight).
namespace Go.Proofs.YtddbkcfdfgehkaaDoor.Q
open Go.RowKit Go.Proofs.YtddbkcfdfgehkaaDoorW.PrintWords Go.Proofs.YtddbkcfdfgehkaaDoorW.PrintLast Go.Proofs.YtddbkcfdfgehkaaDoorW.PrintMore
attribute [local go_sem] max2_int min2_int max_two min_two max_three min_three max_four min_four   -- for this text's walks alone
set_option linter.unusedVariables false
set_option linter.unusedSimpArgs false

/-- What is kept: tokens of which Q holds, and a place of one of these. -/
def Keeps (Q : TOK → Prop) (p : PS) : Prop := (∀ t ∈ p.l, Q t) ∧ Ends p.l ∧ (∀ t ∈ p.hs, Q t) ∧ (p.e ≠ 0 → ∃ t, Q t ∧ p.ln = t.f3 ∧ p.cl = t.f4)
section
variable {Q : TOK → Prop} {p : PS}
theorem now_mem (h : Ends p.l) : p.now ∈ p.l := by
  unfold PS.now
  cases hl : p.l with
  | nil => exact absurd hl h.ne
  | cons a r => exact List.mem_cons_self
theorem take_keeps (h : Keeps Q p) (k : Int) (hk : k ≠ 4) (tx : List ByteArray) : Keeps Q (p.take k tx).1 := by
  have hE := take_ends h.2.1 k hk tx
  obtain ⟨h1, h2, h3, h4⟩ := h
  refine ⟨?_, hE, by rw [(take_hs p k tx).1]; exact h3, ?_⟩
  · intro t ht
    unfold PS.take PS.fail at ht
    split at ht
    · exact h1 t (List.mem_of_mem_tail ht)
    · split at ht <;> exact h1 t ht
  · intro he
    unfold PS.take PS.fail at he ⊢
    split
    · rename_i hf; rw [if_pos hf] at he; exact h4 he
    · rename_i hf
      rw [if_neg hf] at he
      split
      · exact ⟨p.now, h1 _ (now_mem h2), rfl, rfl⟩
      · rename_i h0; exact h4 h0
theorem nums_keeps (h : Keeps Q p) : ∀ n, Keeps Q (PS.nums n p).1
  | 0 => h
  | n + 1 => take_keeps (nums_keeps h n) 2 (by decide) []
theorem fin_keeps (h : Keeps Q p) : Keeps Q p.fin := by
  unfold PS.fin
  split
  · exact h
  · exact take_keeps h 3 (by decide) []
theorem blank_keeps (h : Keeps Q p) : Keeps Q p.blank := by
  obtain ⟨h1, h2, h3, h4⟩ := h
  refine ⟨fun t ht => h1 t ((List.dropWhile_suffix _).subset ht), ?_, h3, h4⟩
  obtain ⟨r, t, hr, ht⟩ := h2
  unfold PS.blank
  show Ends (p.l.dropWhile _)
  rw [hr]
  clear hr h1
  induction r with
  | nil => exact ⟨[], t, by rw [List.nil_append, List.dropWhile_cons, if_neg (by rw [ht]; decide)], ht⟩
  | cons a r ih =>
    rw [List.cons_append, List.dropWhile_cons]
    split
    · exact ih
    · exact ⟨a :: r, t, rfl, ht⟩
theorem one_keeps (h : Keeps Q p) : Keeps Q p.one := by
  obtain ⟨p1, hp1⟩ : ∃ p1 : PS, { p with hs := p.hs ++ [p.now] } = p1 := ⟨_, rfl⟩
  have h1 : Keeps Q p1 := by
    rw [← hp1]
    refine ⟨h.1, h.2.1, fun t ht => ?_, h.2.2.2⟩
    rcases List.mem_append.1 ht with ht | ht
    · exact h.2.2.1 t ht
    · simp at ht; rw [ht]; exact h.1 _ (now_mem h.2.1)
  have h7 := fin_keeps (nums_keeps (take_keeps (nums_keeps (take_keeps (take_keeps h1 1 (by decide) [wTask]) 1 (by decide) []) 3) 1 (by decide) [wRetry, wBlock, wBackup]) 6)
  unfold PS.one
  simp only [hp1]
  exact h7
theorem first_keeps (h : Keeps Q p) : Keeps Q p.first ∧ Q p.first.bt := by
  have h1 := take_keeps h 1 (by decide) [wBurst]
  obtain ⟨q, hq⟩ : ∃ q, (p.take 1 [wBurst]).1 = q := ⟨_, rfl⟩
  rw [hq] at h1
  have h2 : Keeps Q { q with bt := q.now } := h1
  have hb : Q q.now := h1.1 _ (now_mem h1.2.1)
  have h3 := take_keeps h2 2 (by decide) []
  obtain ⟨u, hu⟩ : ∃ u, ({ q with bt := q.now } : PS).take 2 [] = u := ⟨_, rfl⟩
  rw [hu] at h3
  have hub : u.1.bt = q.now := by rw [← hu]; exact (take_hs _ 2 []).2.2.2
  have ef : p.first = ({ u.1 with b := u.2.f2 } : PS).fin := by
    unfold PS.first PS.num
    simp only [hq, hu]
  have h4 : Keeps Q { u.1 with b := u.2.f2 } := h3
  rw [ef]
  refine ⟨fin_keeps h4, ?_⟩
  have : ({ u.1 with b := u.2.f2 } : PS).fin.bt = u.1.bt := by
    unfold PS.fin
    split
    · rfl
    · exact (take_hs _ 3 []).2.2.2
  rw [this, hub]; exact hb
theorem one_bt (p : PS) : p.one.bt = p.bt := by
  have nb : ∀ n (q : PS), (PS.nums n q).1.bt = q.bt := by
    intro n q
    induction n with
    | zero => rfl
    | succ n ih => exact ((take_hs _ 2 []).2.2.2).trans ih
  have fb : ∀ q : PS, q.fin.bt = q.bt := by
    intro q
    unfold PS.fin
    split
    · rfl
    · exact (take_hs _ 3 []).2.2.2
  unfold PS.one
  simp only [fb, nb, (take_hs _ _ _).2.2.2]
theorem go_keeps : ∀ (n : Nat) (p : PS), Keeps Q p → Q p.bt → p.hs.length = p.ts.length → Keeps Q (PS.go n p) ∧ Q (PS.go n p).bt ∧ (PS.go n p).hs.length = (PS.go n p).ts.length
  | 0, p, h, hb, hl => ⟨h, hb, hl⟩
  | n + 1, p, h, hb, hl => by
    rw [PS.go]
    split
    · refine go_keeps n p.one.blank (blank_keeps (one_keeps h)) ?_ ?_
      · show Q p.one.bt
        rw [one_bt]; exact hb
      · show p.one.hs.length = p.one.ts.length
        rw [(one_hs p).1, (one_hs p).2, hl]
    · exact ⟨h, hb, hl⟩
theorem wrong_place (h : Keeps Q p) (hb : Q p.bt) (hl : p.hs.length = p.ts.length) (hw : p.wrong.1 ≠ 0) : ∃ t, Q t ∧ p.wrong.2.1 = t.f3 ∧ p.wrong.2.2 = t.f4 := by
  have hg : ∀ i, i < p.hs.length → Q (p.hs.getD i z46) := fun i hi => by
    rw [List.getD_eq_getElem?_getD, List.getElem?_eq_getElem hi]; exact h.2.2.1 _ (List.getElem_mem hi)
  unfold PS.wrong at hw ⊢
  simp only at hw ⊢
  by_cases h0 : (whyS p.b p.ts).1 = 0
  · rw [if_pos h0] at hw; exact absurd rfl hw
  · rw [if_neg h0]
    refine ⟨_, ?_, rfl, rfl⟩
    rcases whyS_range p.b p.ts with h1 | h1 | ⟨h1, h2⟩ | ⟨h1, h2, h3⟩
    · exact absurd h1 h0
    · rw [if_pos h1]; exact hb
    · rw [if_neg (by omega), if_pos h1]
      split
      · rename_i h4; exact hg 16 (by omega)
      · exact h.1 _ (now_mem h.2.1)
    · rw [if_neg (by omega), if_neg (by omega)]
      exact hg _ (by omega)
end
/-- Where a text isn't read: no tasks, and a place in it. -/
theorem parse_place (l : List Int) (h : (parseF l).2.2.1 ≠ 0) : (parseF l).2.1 = [] ∧ (parseF l).1 = 0 ∧ 1 ≤ (parseF l).2.2.2.1 ∧ 1 ≤ (parseF l).2.2.2.2 ∧ (parseF l).2.2.2.2 ≤ l.length + 1 := by
  have hL := lexI l
  unfold parseF at h ⊢
  by_cases h0 : (lexToks l).2.1 = 0
  · rw [if_pos h0] at h ⊢
    obtain ⟨ys, L, C, e1, e2, e3, e4, e5⟩ := hL.1 h0
    have hK : Keeps (fun t => 1 ≤ t.f3 ∧ 1 ≤ t.f4 ∧ t.f4 ≤ l.length + 1) (PS.init (lexToks l).1) := by
      refine ⟨fun t ht => ?_, ?_, fun t ht => (by cases ht), fun he => absurd rfl he⟩
      · show 1 ≤ t.f3 ∧ 1 ≤ t.f4 ∧ t.f4 ≤ l.length + 1
        have ht : t ∈ (lexToks l).1 := ht
        rw [e1] at ht
        rcases List.mem_append.1 ht with ht | ht
        · have := (e5 t ht).1; unfold Good at this; omega
        · simp at ht; subst ht; exact ⟨e2, e3, e4⟩
      · exact ⟨ys, _, e1, rfl⟩
    have h1 := first_keeps (blank_keeps hK)
    have hh := first_hs (PS.init (lexToks l).1).blank
    have h2 := go_keeps (lexToks l).1.length _ (blank_keeps h1.1) h1.2 (by
      show (PS.init (lexToks l).1).blank.first.hs.length = (PS.init (lexToks l).1).blank.first.ts.length
      rw [hh.1, hh.2]; rfl)
    unfold parseToks at h ⊢
    simp only at h ⊢
    obtain ⟨F, hF⟩ : ∃ F, PS.go (lexToks l).1.length (PS.init (lexToks l).1).blank.first.blank = F := ⟨_, rfl⟩
    rw [hF] at h h2 ⊢
    by_cases he : F.e = 0
    · simp only [if_pos he] at h ⊢
      by_cases hw : F.wrong.1 = 0
      · rw [if_pos hw] at h; exact absurd rfl h
      · rw [if_neg hw]
        obtain ⟨t, ht, g1, g2⟩ := wrong_place h2.1 h2.2.1 h2.2.2 hw
        refine ⟨rfl, rfl, ?_⟩
        show 1 ≤ F.wrong.2.1 ∧ 1 ≤ F.wrong.2.2 ∧ F.wrong.2.2 ≤ l.length + 1
        rw [g1, g2]; exact ht
    · simp only [if_neg he]
      obtain ⟨t, ht, g1, g2⟩ := h2.1.2.2.2 he
      refine ⟨by trivial, by trivial, ?_⟩
      show 1 ≤ F.ln ∧ 1 ≤ F.cl ∧ F.cl ≤ l.length + 1
      rw [g1, g2]; exact ht
  · rw [if_neg h0] at h ⊢
    exact ⟨rfl, rfl, hL.2 h0⟩
/-- A text that is read is a right set. -/
theorem parse_right (l : List Int) (h : (parseF l).2.2.1 = 0) : (whyS (parseF l).1 (parseF l).2.1).1 = 0 := by
  unfold parseF at h ⊢
  by_cases h0 : (lexToks l).2.1 = 0
  · rw [if_pos h0] at h ⊢
    unfold parseToks at h ⊢
    simp only at h ⊢
    obtain ⟨F, hF⟩ : ∃ F, PS.go (lexToks l).1.length (PS.init (lexToks l).1).blank.first.blank = F := ⟨_, rfl⟩
    rw [hF] at h ⊢
    by_cases he : F.e = 0
    · simp only [if_pos he] at h ⊢
      by_cases hw : F.wrong.1 = 0
      · rw [if_pos hw]
        show (whyS F.b F.ts).1 = 0
        rcases Decidable.em ((whyS F.b F.ts).1 = 0) with h1 | h1
        · exact h1
        · refine absurd hw ?_
          unfold PS.wrong
          simp only [if_neg h1]
          decide
      · rw [if_neg hw] at h; exact absurd h hw
    · simp only [if_neg he] at h
      exact absurd h he
  · rw [if_neg h0] at h
    exact absurd h h0
-- counting numbers: a task has nine
def cntN (l : List TOK) : Nat := l.countP (fun t => t.f0 == 2)
section
variable {p : PS}
theorem take_cnt (k : Int) (tx : List ByteArray) (h : (p.take k tx).1.e = 0) (hl : p.l ≠ []) : cntN p.l = (if k = 2 then 1 else 0) + cntN (p.take k tx).1.l := by
  obtain ⟨hf, -, hk⟩ := take_fit p k tx h
  unfold PS.take
  rw [if_pos hf]
  show cntN p.l = _ + cntN p.l.tail
  cases hp : p.l with
  | nil => exact absurd hp hl
  | cons a r =>
    have ha : a.f0 = k := by rw [← hk]; unfold PS.now; rw [hp]; rfl
    unfold cntN
    rw [List.countP_cons, ha, List.tail_cons]
    by_cases hk2 : k = 2
    · rw [if_pos hk2, if_pos (by simpa using hk2)]; omega
    · rw [if_neg hk2, if_neg (by simpa using hk2)]; omega
theorem nums_cnt (hE : Ends p.l) : ∀ n, (PS.nums n p).1.e = 0 → cntN p.l = n + cntN (PS.nums n p).1.l
  | 0, _ => by show cntN p.l = 0 + cntN p.l; omega
  | n + 1, h => by
    have h' : ((PS.nums n p).1.take 2 []).1.e = 0 := h
    have h1 : (PS.nums n p).1.e = 0 := (take_fit _ _ _ h').2.1
    have h2 := nums_cnt hE n h1
    have h3 := take_cnt 2 [] h' (nums_ends n p hE).ne
    rw [if_pos rfl] at h3
    show cntN p.l = n + 1 + cntN ((PS.nums n p).1.take 2 []).1.l
    omega
theorem fin_cnt (hE : Ends p.l) (h : p.fin.e = 0) : cntN p.l = cntN p.fin.l := by
  unfold PS.fin at h ⊢
  split
  · rfl
  · rename_i hn
    rw [if_neg hn] at h
    have := take_cnt 3 [] h hE.ne
    rw [if_neg (by decide)] at this
    omega
theorem blank_cnt : cntN p.blank.l = cntN p.l := by
  unfold PS.blank
  show cntN (p.l.dropWhile _) = _
  have : ∀ l : List TOK, cntN (l.dropWhile (fun t => t.f0 == 3)) = cntN l := by
    intro l
    induction l with
    | nil => rfl
    | cons a r ih =>
      rw [List.dropWhile_cons]
      split
      · rename_i h
        rw [ih]
        unfold cntN
        rw [List.countP_cons, if_neg]
        · rfl
        · simp at h ⊢; omega
      · rfl
  exact this _
theorem one_parts (he : p.one.e = 0) : ∃ p1 p2 p3 p4 p5 p6 : PS, p1 = { p with hs := p.hs ++ [p.now] } ∧ p2 = (p1.take 1 [wTask]).1 ∧ p3 = (p2.take 1 []).1 ∧ p4 = (PS.nums 3 p3).1 ∧ p5 = (p4.take 1 [wRetry, wBlock, wBackup]).1 ∧ p6 = (PS.nums 6 p5).1 ∧ p.one.l = p6.fin.l ∧ p6.fin.e = 0 ∧ p6.e = 0 ∧ p5.e = 0 ∧ p4.e = 0 ∧ p3.e = 0 ∧ p2.e = 0 ∧ p1.e = 0 := by
  obtain ⟨p1, hp1⟩ : ∃ p1 : PS, { p with hs := p.hs ++ [p.now] } = p1 := ⟨_, rfl⟩
  have e7 : p.one.l = (PS.nums 6 ((PS.nums 3 ((p1.take 1 [wTask]).1.take 1 []).1).1.take 1 [wRetry, wBlock, wBackup]).1).1.fin.l := by
    unfold PS.one; simp only [hp1]
  have he7 : (PS.nums 6 ((PS.nums 3 ((p1.take 1 [wTask]).1.take 1 []).1).1.take 1 [wRetry, wBlock, wBackup]).1).1.fin.e = 0 := by
    rw [← he]; unfold PS.one; simp only [hp1]
  have he6 : (PS.nums 6 ((PS.nums 3 ((p1.take 1 [wTask]).1.take 1 []).1).1.take 1 [wRetry, wBlock, wBackup]).1).1.e = 0 := by
    rcases Decidable.em ((PS.nums 6 ((PS.nums 3 ((p1.take 1 [wTask]).1.take 1 []).1).1.take 1 [wRetry, wBlock, wBackup]).1).1.e = 0) with hx | hx
    · exact hx
    · exact absurd he7 (fin_e _ hx)
  have he5 : ((PS.nums 3 ((p1.take 1 [wTask]).1.take 1 []).1).1.take 1 [wRetry, wBlock, wBackup]).1.e = 0 := by
    rcases Decidable.em (((PS.nums 3 ((p1.take 1 [wTask]).1.take 1 []).1).1.take 1 [wRetry, wBlock, wBackup]).1.e = 0) with hx | hx
    · exact hx
    · exact absurd he6 (nums_e _ _ hx)
  have he4 := (take_fit _ _ _ he5).2.1
  have he3 : ((p1.take 1 [wTask]).1.take 1 []).1.e = 0 := by
    rcases Decidable.em (((p1.take 1 [wTask]).1.take 1 []).1.e = 0) with hx | hx
    · exact hx
    · exact absurd he4 (nums_e _ _ hx)
  have he2 := (take_fit _ _ _ he3).2.1
  have he1 := (take_fit _ _ _ he2).2.1
  exact ⟨p1, _, _, _, _, _, hp1.symm, rfl, rfl, rfl, rfl, rfl, e7, he7, he6, he5, he4, he3, he2, he1⟩
theorem one_cnt (hE : Ends p.l) (he : p.one.e = 0) : cntN p.l = 9 + cntN p.one.l ∧ p.e = 0 := by
  obtain ⟨p1, p2, p3, p4, p5, p6, e1, e2, e3, e4, e5, e6, e7, g7, g6, g5, g4, g3, g2, g1⟩ := one_parts he
  have E1 : Ends p1.l := by rw [e1]; exact hE
  have c1 : cntN p1.l = cntN p.l := by rw [e1]
  have E2 : Ends p2.l := by rw [e2]; exact take_ends E1 1 (by decide) _
  have c2 : cntN p1.l = 0 + cntN p2.l := by rw [e2] at g2 ⊢; exact take_cnt 1 [wTask] g2 E1.ne
  have E3 : Ends p3.l := by rw [e3]; exact take_ends E2 1 (by decide) _
  have c3 : cntN p2.l = 0 + cntN p3.l := by rw [e3] at g3 ⊢; exact take_cnt 1 [] g3 E2.ne
  have E4 : Ends p4.l := by rw [e4]; exact nums_ends 3 _ E3
  have c4 : cntN p3.l = 3 + cntN p4.l := by rw [e4] at g4 ⊢; exact nums_cnt E3 3 g4
  have E5 : Ends p5.l := by rw [e5]; exact take_ends E4 1 (by decide) _
  have c5 : cntN p4.l = 0 + cntN p5.l := by rw [e5] at g5 ⊢; exact take_cnt 1 _ g5 E4.ne
  have E6 : Ends p6.l := by rw [e6]; exact nums_ends 6 _ E5
  have c6 : cntN p5.l = 6 + cntN p6.l := by rw [e6] at g6 ⊢; exact nums_cnt E5 6 g6
  have c7 := fin_cnt E6 g7
  refine ⟨by rw [e7]; omega, ?_⟩
  rw [e1] at g1; exact g1
theorem first_cnt (hE : Ends p.l) (he : p.first.e = 0) : cntN p.l = 1 + cntN p.first.l := by
  obtain ⟨q, hq⟩ : ∃ q, (p.take 1 [wBurst]).1 = q := ⟨_, rfl⟩
  obtain ⟨u, hu⟩ : ∃ u, ({ q with bt := q.now } : PS).take 2 [] = u := ⟨_, rfl⟩
  have ef : p.first = ({ u.1 with b := u.2.f2 } : PS).fin := by
    unfold PS.first PS.num
    simp only [hq, hu]
  rw [ef] at he ⊢
  have hue : u.1.e = 0 := by
    rcases Decidable.em (u.1.e = 0) with hx | hx
    · exact hx
    · exact absurd he (fin_e _ hx)
  have hqe : q.e = 0 := by rw [← hu] at hue; exact (take_fit _ _ _ hue).2.1
  have E1 : Ends q.l := by rw [← hq]; exact take_ends hE 1 (by decide) _
  have E2 : Ends u.1.l := by rw [← hu]; exact take_ends (p := { q with bt := q.now }) E1 2 (by decide) _
  have c1 : cntN p.l = 0 + cntN q.l := by rw [← hq] at hqe ⊢; exact take_cnt 1 [wBurst] hqe hE.ne
  have c2 : cntN q.l = 1 + cntN u.1.l := by rw [← hu] at hue ⊢; exact take_cnt (p := { q with bt := q.now }) 2 [] hue E1.ne
  have c3 : cntN u.1.l = cntN ({ u.1 with b := u.2.f2 } : PS).fin.l := fin_cnt (p := { u.1 with b := u.2.f2 }) E2 he
  omega
theorem blank_ends (h : Ends p.l) : Ends p.blank.l := by
  obtain ⟨r, t, hr, ht⟩ := h
  unfold PS.blank
  show Ends (p.l.dropWhile _)
  rw [hr]
  clear hr
  induction r with
  | nil => exact ⟨[], t, by rw [List.nil_append, List.dropWhile_cons, if_neg (by rw [ht]; decide)], ht⟩
  | cons a r ih =>
    rw [List.cons_append, List.dropWhile_cons]
    split
    · exact ih
    · exact ⟨a :: r, t, rfl, ht⟩
theorem one_ends (h : Ends p.l) : Ends p.one.l := by
  obtain ⟨p1, hp1⟩ : ∃ p1 : PS, { p with hs := p.hs ++ [p.now] } = p1 := ⟨_, rfl⟩
  have h1 : Ends p1.l := by rw [← hp1]; exact h
  have h7 := fin_ends (nums_ends 6 _ (take_ends (nums_ends 3 _ (take_ends (take_ends h1 1 (by decide) [wTask]) 1 (by decide) [])) 1 (by decide) [wRetry, wBlock, wBackup]))
  unfold PS.one
  simp only [hp1]
  exact h7
theorem first_ends (h : Ends p.l) : Ends p.first.l := by
  obtain ⟨q, hq⟩ : ∃ q, (p.take 1 [wBurst]).1 = q := ⟨_, rfl⟩
  obtain ⟨u, hu⟩ : ∃ u, ({ q with bt := q.now } : PS).take 2 [] = u := ⟨_, rfl⟩
  have ef : p.first = ({ u.1 with b := u.2.f2 } : PS).fin := by
    unfold PS.first PS.num
    simp only [hq, hu]
  have E1 : Ends q.l := by rw [← hq]; exact take_ends h 1 (by decide) _
  have E2 : Ends u.1.l := by rw [← hu]; exact take_ends (p := { q with bt := q.now }) E1 2 (by decide) _
  rw [ef]
  exact fin_ends (p := { u.1 with b := u.2.f2 }) E2
theorem go_cnt : ∀ (n : Nat) (p : PS), Ends p.l → p.l.length ≤ n → (PS.go n p).e = 0 → cntN p.l + 9 * p.ts.length = cntN (PS.go n p).l + 9 * (PS.go n p).ts.length ∧ (PS.go n p).now.f0 = 4 ∧ Ends (PS.go n p).l
  | 0, p, hE, hl, _ => absurd (List.eq_nil_of_length_eq_zero (Nat.le_zero.1 hl)) hE.ne
  | n + 1, p, hE, hl, he => by
    rw [PS.go] at he ⊢
    by_cases hc : p.e = 0 ∧ p.now.f0 ≠ 4
    · rw [if_pos hc] at he ⊢
      have hoe : p.one.e = 0 := by
        rcases Decidable.em (p.one.e = 0) with h | h
        · exact h
        · exact absurd he (by rw [go_bad n p.one.blank h]; exact h)
      have h1 := one_cnt hE hoe
      have h2 := one_len p hE.ne hoe
      have h3 := blank_len p.one
      have h4 := go_cnt n p.one.blank (blank_ends (one_ends hE)) (by omega) he
      have h5 : cntN p.one.blank.l = cntN p.one.l := blank_cnt
      have h6 : p.one.blank.ts.length = p.ts.length + 1 := (one_hs p).2
      refine ⟨by omega, h4.2⟩
    · rw [if_neg hc] at he ⊢
      refine ⟨rfl, ?_, hE⟩
      rcases Decidable.em (p.now.f0 = 4) with h | h
      · exact h
      · exact absurd ⟨he, h⟩ hc
end
/-- Inner tokens are left till the last. -/
theorem parse_count (ys : List TOK) (t : TOK) (ht : t.f0 = 4) (hi : Inner ys) (h : (parseToks (ys ++ [t])).2.2.1 = 0) : cntN (ys ++ [t]) = 1 + 9 * (parseToks (ys ++ [t])).2.1.length := by
  obtain ⟨T, hT⟩ : ∃ T, ys ++ [t] = T := ⟨_, rfl⟩
  rw [hT] at h ⊢
  have hE : Ends (PS.init T).l := ⟨ys, t, hT.symm, ht⟩
  have hge : (PS.go T.length (PS.init T).blank.first.blank).e = 0 := by
    rcases Decidable.em ((PS.go T.length (PS.init T).blank.first.blank).e = 0) with hx | hx
    · exact hx
    · refine absurd h ?_
      unfold parseToks
      simp only [if_neg hx]
      exact hx
  have hfe : (PS.init T).blank.first.e = 0 := by
    rcases Decidable.em ((PS.init T).blank.first.e = 0) with hx | hx
    · exact hx
    · exact absurd hge (by rw [go_bad _ (PS.init T).blank.first.blank hx]; exact hx)
  have h1 := first_cnt (blank_ends hE) hfe
  have h2 : cntN (PS.init T).blank.l = cntN T := blank_cnt
  have h3 : cntN (PS.init T).blank.first.blank.l = cntN (PS.init T).blank.first.l := blank_cnt
  have h4 := go_cnt T.length (PS.init T).blank.first.blank (blank_ends (first_ends (blank_ends hE))) (Nat.le_trans (blank_len _) (Nat.le_trans (first_len _) (blank_len _))) hge
  have h5 : (PS.init T).blank.first.blank.ts = [] := (first_hs _).2
  rw [h5] at h4
  have h6 := h4.1
  -- what is left is the end alone
  have h7 : cntN (PS.go T.length (PS.init T).blank.first.blank).l = 0 := by
    have hs : ∀ (n : Nat) (p : PS), p.l <:+ T → (PS.go n p).l <:+ T := by
      have ts : ∀ (p : PS) k tx, (p.take k tx).1.l <:+ p.l := by
        intro p k tx
        unfold PS.take PS.fail
        split
        · exact List.tail_suffix _
        · split <;> exact List.suffix_refl _
      have ns : ∀ n (p : PS), (PS.nums n p).1.l <:+ p.l := by
        intro n p
        induction n with
        | zero => exact List.suffix_refl _
        | succ n ih => exact (ts _ 2 []).trans ih
      have fs : ∀ p : PS, p.fin.l <:+ p.l := by
        intro p
        unfold PS.fin
        split
        · exact List.suffix_refl _
        · exact ts _ 3 []
      have os : ∀ p : PS, p.one.l <:+ p.l := by
        intro p
        unfold PS.one
        exact (fs _).trans ((ns _ _).trans ((ts _ _ _).trans ((ns _ _).trans ((ts _ _ _).trans (ts _ _ _)))))
      intro n
      induction n with
      | zero => intro p hp; exact hp
      | succ n ih =>
        intro p hp
        rw [PS.go]
        split
        · exact ih _ ((List.dropWhile_suffix _).trans ((os p).trans hp))
        · exact hp
    have hsuf := hs T.length (PS.init T).blank.first.blank (by
      have ts : ∀ (p : PS) k tx, (p.take k tx).1.l <:+ p.l := by
        intro p k tx
        unfold PS.take PS.fail
        split
        · exact List.tail_suffix _
        · split <;> exact List.suffix_refl _
      have fs : ∀ p : PS, p.fin.l <:+ p.l := by
        intro p
        unfold PS.fin
        split
        · exact List.suffix_refl _
        · exact ts _ 3 []
      have f1 : ∀ p : PS, p.first.l <:+ p.l := by
        intro p
        unfold PS.first
        exact (fs _).trans ((ts { (p.take 1 [wBurst]).1 with bt := (p.take 1 [wBurst]).1.now } 2 []).trans (ts _ _ _))
      exact (List.dropWhile_suffix _).trans ((f1 _).trans (List.dropWhile_suffix _)))
    obtain ⟨F, hF⟩ : ∃ F, PS.go T.length (PS.init T).blank.first.blank = F := ⟨_, rfl⟩
    rw [hF] at h4 hsuf ⊢
    obtain ⟨-, h8, hEF⟩ := h4
    rw [← hT] at hsuf
    obtain ⟨pre, hpre⟩ := hsuf
    cases hl : F.l with
    | nil => exact absurd hl hEF.ne
    | cons a r =>
      have ha : a.f0 = 4 := by rw [← h8]; unfold PS.now; rw [hl]; rfl
      rw [hl] at hpre
      cases r with
      | nil =>
        unfold cntN
        rw [List.countP_cons, ha]; rfl
      | cons b r =>
        exfalso
        have hm : a ∈ ys := by
          have e : (pre ++ [a]) ++ (b :: r) = ys ++ [t] := by rw [← hpre]; simp
          have e2 : (pre ++ [a]) ++ (b :: r).dropLast = ys := by
            have := congrArg List.dropLast e
            rw [List.dropLast_concat, List.dropLast_append_of_ne_nil (by simp)] at this
            exact this
          rw [← e2]; simp
        exact hi a hm ha
  have h8 : (parseToks T).2.1 = (PS.go T.length (PS.init T).blank.first.blank).ts := by
    unfold parseToks at h ⊢
    simp only [if_pos hge] at h ⊢
    by_cases hw : (PS.go T.length (PS.init T).blank.first.blank).wrong.1 = 0
    · rw [if_pos hw]
    · rw [if_neg hw] at h; exact absurd h hw
  rw [h8]
  simp at h6
  omega
-- a text's beginning has no more numbers
theorem tw_app (P : Int → Bool) (a r : List Int) : (a ++ r).takeWhile P = if a.takeWhile P = a then a ++ r.takeWhile P else a.takeWhile P := by
  induction a with
  | nil => simp
  | cons c a ih =>
    rw [List.cons_append, List.takeWhile_cons, List.takeWhile_cons, ih]
    by_cases h : P c = true
    · rw [if_pos h, if_pos h]
      by_cases h2 : a.takeWhile P = a
      · rw [if_pos h2, if_pos (by rw [h2])]; rfl
      · rw [if_neg h2, if_neg (by intro e; exact h2 (List.cons.inj e).2)]
    · rw [if_neg h, if_neg h, if_neg (by simp)]
def isNum (t : Option (Int × ByteArray × Int)) : Nat := match t with | none => 0 | some (k, _, _) => if k = 2 then 1 else 0
theorem tokL_num (t : Option (Int × ByteArray × Int)) (line col : Int) : cntN (tokL t line col) = isNum t := by
  unfold tokL isNum cntN
  split
  · rfl
  · rename_i k x v
    by_cases h : k = 2
    · subst h; rfl
    · show List.countP _ [_] = if k = 2 then 1 else 0
      rw [if_neg h, List.countP_cons, List.countP_nil, if_neg (by simpa using h)]
theorem piece_pre {a : List Int} (ha : a ≠ []) (r : List Int) (h0 : (piece a).1 = 0) (h1 : (piece (a ++ r)).1 = 0) : piece (a ++ r) = piece a ∨ ((piece a).2.1 = a.length ∧ isNum (piece a).2.2.1 = isNum (piece (a ++ r)).2.2.1) := by
  cases a with
  | nil => exact absurd rfl ha
  | cons c s =>
    rw [List.cons_append] at h1 ⊢
    have tw : ∀ P : Int → Bool, (c :: (s ++ r)).takeWhile P = if (c :: s).takeWhile P = c :: s then (c :: s) ++ r.takeWhile P else (c :: s).takeWhile P := fun P => tw_app P (c :: s) r
    rcases piece_ways c s with h | ⟨g1, g2, ⟨n, h⟩ | h⟩ | rfl | rfl | rfl | rfl | ⟨g1, g2, g3, g4, g5, g6⟩
    · rw [piece_word h, piece_word h, tw wdB]
      by_cases hw : (c :: s).takeWhile wdB = c :: s
      · right; rw [hw]; exact ⟨rfl, rfl⟩
      · left; rw [if_neg hw]
    · rw [piece_number g1 g2 h]
      cases hm : valGo 0 ((c :: (s ++ r)).takeWhile dgB) with
      | none => rw [piece_over g1 g2 hm] at h1; exact absurd h1 (by decide)
      | some m =>
        rw [piece_number g1 g2 hm]
        by_cases hw : (c :: s).takeWhile dgB = c :: s
        · right; rw [hw]; exact ⟨rfl, rfl⟩
        · left
          rw [tw dgB, if_neg hw] at hm ⊢
          rw [h] at hm
          cases hm; rfl
    · rw [piece_over g1 g2 h] at h0; exact absurd h0 (by decide)
    · left; rfl
    · left; rfl
    · left; rfl
    · rw [piece_remark, piece_remark, tw rkB]
      by_cases hw : (35 :: s).takeWhile rkB = 35 :: s
      · right; rw [hw]; exact ⟨rfl, rfl⟩
      · left; rw [if_neg hw]
    · rw [piece_bad g1 g2 g3 g4 g5 g6] at h0; exact absurd h0 (by decide)
theorem toks_more (F : Nat) : ∀ (s : List Int) (line col : Int) (xs : List TOK), s.length < F → (toks F s line col xs).2.1 = 0 → cntN xs ≤ cntN (toks F s line col xs).1 := by
  induction F with
  | zero => intro s _ _ _ h; omega
  | succ F ih =>
    intro s line col xs h h0
    by_cases hs : s = []
    · subst hs
      rw [toks_end]
      unfold cntN
      rw [List.countP_append]; omega
    · by_cases he : (piece s).1 = 0
      · rw [toks_go hs he] at h0 ⊢
        have p1 := piece_pos hs he
        have p2 : 0 < s.length := List.length_pos_iff.mpr hs
        have := ih _ _ _ _ (by rw [List.length_drop]; omega) h0
        refine Nat.le_trans ?_ this
        unfold cntN
        rw [List.countP_append]; omega
      · rw [toks_err hs he] at h0
        exact absurd h0 he
theorem pre_nums (n : Nat) : ∀ (a : List Int), a.length ≤ n → ∀ (r : List Int) (F G : Nat) (line col line' col' : Int) (xs ys : List TOK), a.length < F → (a ++ r).length < G → cntN xs ≤ cntN ys → (toks F a line col xs).2.1 = 0 → (toks G (a ++ r) line' col' ys).2.1 = 0 → cntN (toks F a line col xs).1 ≤ cntN (toks G (a ++ r) line' col' ys).1 := by
  induction n with
  | zero =>
    intro a ha r F G line col line' col' xs ys hF hG hx h0 h1
    have : a = [] := List.eq_nil_of_length_eq_zero (by omega)
    subst this
    obtain ⟨F, rfl⟩ : ∃ m, F = m + 1 := ⟨F - 1, by omega⟩
    rw [toks_end]
    refine Nat.le_trans ?_ (Nat.le_trans hx (toks_more G _ _ _ _ hG h1))
    unfold cntN
    rw [List.countP_append]
    exact Nat.le_refl _
  | succ n ih =>
    intro a ha r F G line col line' col' xs ys hF hG hx h0 h1
    by_cases hs : a = []
    · subst hs; exact ih [] (by simp) r F G line col line' col' xs ys hF hG hx h0 h1
    · obtain ⟨F, rfl⟩ : ∃ m, F = m + 1 := ⟨F - 1, by omega⟩
      obtain ⟨G, rfl⟩ : ∃ m, G = m + 1 := ⟨G - 1, by omega⟩
      have hs2 : a ++ r ≠ [] := fun e => hs (List.append_eq_nil_iff.1 e).1
      by_cases he : (piece a).1 = 0
      · by_cases he2 : (piece (a ++ r)).1 = 0
        · rw [toks_go hs he] at h0 ⊢
          rw [toks_go hs2 he2] at h1 ⊢
          have p1 := piece_pos hs he
          have p2 : 0 < a.length := List.length_pos_iff.mpr hs
          have p3 := piece_le a
          have p4 := piece_pos hs2 he2
          have p5 := piece_le (a ++ r)
          rcases piece_pre hs r he he2 with hp | ⟨hp, hq⟩
          · rw [hp] at h1 ⊢
            rw [List.drop_append_of_le_length p3] at h1 ⊢
            refine ih _ (by rw [List.length_drop]; omega) r F G _ _ _ _ _ _ (by rw [List.length_drop]; omega) (by simp at hG ⊢; omega) ?_ h0 h1
            unfold cntN at hx ⊢
            rw [List.countP_append, List.countP_append]
            have e1 := tokL_num (piece a).2.2.1 line col
            have e2 := tokL_num (piece a).2.2.1 line' col'
            unfold cntN at e1 e2
            omega
          · refine Nat.le_trans ?_ (toks_more G _ _ _ _ (by rw [List.length_drop]; omega) h1)
            obtain ⟨F, rfl⟩ : ∃ m, F = m + 1 := ⟨F - 1, by omega⟩
            rw [hp, List.drop_length, toks_end]
            unfold cntN at hx ⊢
            rw [List.countP_append, List.countP_append, List.countP_append]
            have e1 := tokL_num (piece a).2.2.1 line col
            have e2 := tokL_num (piece (a ++ r)).2.2.1 line' col'
            unfold cntN at e1 e2
            have e3 : ∀ L C : Int, List.countP (fun t : TOK => t.f0 == 2) [⟨4, (⟨#[]⟩ : ByteArray), 0, L, C⟩] = 0 := fun _ _ => rfl
            rw [e3]
            omega
        · rw [toks_err hs2 he2] at h1; exact absurd h1 he2
      · rw [toks_err hs he] at h0; exact absurd h0 he
theorem parse_cut (l : List Int) (k : Nat) (h : (parseF l).2.2.1 = 0) (h2 : (parseF (l.take k)).2.2.1 = 0) : (parseF (l.take k)).2.1.length ≤ (parseF l).2.1.length := by
  have lexok : ∀ s, (parseF s).2.2.1 = 0 → (lexToks s).2.1 = 0 := by
    intro s hs
    rcases Decidable.em ((lexToks s).2.1 = 0) with h1 | h1
    · exact h1
    · unfold parseF at hs; rw [if_neg h1] at hs; exact absurd hs h1
  have cnt : ∀ s, (parseF s).2.2.1 = 0 → cntN (lexToks s).1 = 1 + 9 * (parseF s).2.1.length := by
    intro s hs
    have h0 := lexok s hs
    obtain ⟨ys, L, C, e1, -, -, -, e5⟩ := (lexI s).1 h0
    unfold parseF at hs ⊢
    rw [if_pos h0] at hs ⊢
    rw [e1] at hs ⊢
    exact parse_count ys _ rfl (fun x hx => by have := (e5 x hx).2; omega) hs
  have h3 := cnt _ h
  have h4 := cnt _ h2
  have e : l.take k ++ l.drop k = l := List.take_append_drop k l
  have h5 := pre_nums (l.take k).length (l.take k) (Nat.le_refl _) (l.drop k) ((l.take k).length + 1) (l.length + 1) 1 1 1 1 [] [] (by omega) (by rw [e]; omega) (Nat.le_refl _) (lexok _ h2) (by rw [e]; exact lexok _ h)
  rw [e] at h5
  unfold lexToks at h3 h4
  omega
end Go.Proofs.YtddbkcfdfgehkaaDoor.Q
