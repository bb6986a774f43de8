-- The reference of chapter 4 tells the plain function's tokens.
import Derived.Test.YtbopjoeihoignaaQ0
import Derived.Test.YtbopjoeihoignaaQ6
import Derived.Test.YtbopjoeihoignaaQ7
import Derived.Test.YtbopjoeihoignaaQ8
import Derived.Test.YtbopjoeihoignaaHlex
import Derived.Test.YtbopjoeihoignaaHlexA
import Derived.Test.YtbopjoeihoignaaHlexB
import Derived.Test.YtbopjoeihoignaaLlex
import Derived.OpenShut
namespace Go.Proofs.Ytbopjoeihoignaa.Q
open Go.RowKit Go.Proofs.YtbopjoeihoignaaW.PrintWords Go.Proofs.YtbopjoeihoignaaW.PrintLast Go.Proofs.YtbopjoeihoignaaW.PrintMore
attribute [local go_sem] max2_int min2_int max_two min_two max_three min_three max_four min_four   -- for this text's walks alone
set_option linter.unusedVariables false
set_option linter.unusedSimpArgs false

def kindOf (c : Int) : Int := if smB c = true then 1 else if dgB c = true then 2 else if c = 95 then 3 else if c = 32 then 4 else if c = 9 then 4 else if c = 10 then 5 else if c = 35 then 6 else 0
theorem kind_at (c : Int) (k : Nat) (hk : 3 ≤ k) : pendulumref04_kind.f k c = some (kindOf c) := by
  obtain ⟨k, rfl⟩ : ∃ m, k = m + 3 := ⟨k - 3, by omega⟩
  have hs : (if c ≥ 97 then decide (c ≤ 122) else false) = smB c := by
    unfold smB; by_cases h : c ≥ 97
    · rw [if_pos h]; simp; omega
    · rw [if_neg h]; simp; omega
  have hd : (if c ≥ 48 then decide (c ≤ 57) else false) = dgB c := by
    unfold dgB; by_cases h : c ≥ 48
    · rw [if_pos h]; simp; omega
    · rw [if_neg h]; simp; omega
  have h0 : pendulumref04_kind.f (k + 3) c = pendulumref04_kind.j0 (k + 3) c (smB c) := by
    unfold pendulumref04_kind.f; rw [← hs]; split <;> rfl
  have h1 : pendulumref04_kind.j0 (k + 3) c (smB c) = if smB c = true then some 1 else pendulumref04_kind.j1 (k + 2) c (dgB c) := by
    simp only [pendulumref04_kind.j0]; rw [← hd]; split
    · rfl
    · split <;> rfl
  rw [h0, h1]
  unfold kindOf
  split
  · rfl
  · simp only [pendulumref04_kind.j1]
    split
    · rfl
    · split
      · rfl
      · by_cases h32 : c = 32
        · rw [if_pos h32, if_pos h32]; rfl
        · rw [if_neg h32, if_neg h32]
          simp only [pendulumref04_kind.j2]
          by_cases h9 : c = 9
          · rw [if_pos h9, if_pos (by simpa using h9)]
          · rw [if_neg h9, if_neg (by simpa using h9)]
            split
            · rfl
            · split <;> rfl
theorem kindOf_sm {c : Int} (h : smB c = true) : kindOf c = 1 := by unfold kindOf; rw [if_pos h]
theorem kindOf_dg {c : Int} (h1 : ¬ smB c = true) (h : dgB c = true) : kindOf c = 2 := by unfold kindOf; rw [if_neg h1, if_pos h]
theorem kindOf_bad {c : Int} (h1 : ¬ smB c = true) (h2 : ¬ dgB c = true) (h3 : c ≠ 10) (h4 : c ≠ 32) (h5 : c ≠ 9) (h6 : c ≠ 35) : kindOf c = 3 ∨ kindOf c = 0 := by
  unfold kindOf; rw [if_neg h1, if_neg h2, if_neg h4, if_neg h5, if_neg h3, if_neg h6]
  split
  · exact .inl rfl
  · exact .inr rfl
theorem kindOf_word (c : Int) : (1 ≤ kindOf c ∧ kindOf c ≤ 3) ↔ wdB c = true := by
  unfold kindOf wdB
  by_cases h1 : smB c = true
  · rw [if_pos h1]; simp [h1]
  · rw [if_neg h1]
    by_cases h2 : dgB c = true
    · rw [if_pos h2]; simp [h2]
    · rw [if_neg h2]
      by_cases h3 : c = 95
      · rw [if_pos h3]; simp [h3]
      · rw [if_neg h3]
        have e1 : smB c = false := Bool.eq_false_iff.mpr h1
        have e2 : dgB c = false := Bool.eq_false_iff.mpr h2
        rw [e1, e2]
        simp only [Bool.or_self, Bool.false_or, beq_iff_eq, h3, iff_false]
        repeat' split
        all_goals omega
theorem kindOf_digit (c : Int) : kindOf c = 2 ↔ dgB c = true := by
  unfold kindOf
  by_cases h1 : smB c = true
  · rw [if_pos h1]
    constructor
    · intro h; exact absurd h (by decide)
    · intro h; unfold smB at h1; unfold dgB at h; simp at h1 h; omega
  · rw [if_neg h1]
    by_cases h2 : dgB c = true
    · rw [if_pos h2]; simp [h2]
    · rw [if_neg h2]
      simp only [h2, iff_false]
      repeat' split
      all_goals simp
theorem kindOf_line (c : Int) : kindOf c = 5 ↔ c = 10 := by
  unfold kindOf smB dgB
  constructor
  · intro h
    repeat' (first | assumption | (split at h))
    all_goals first | assumption | (exfalso; omega)
  · rintro rfl; rfl
theorem wrap_ok {x : Int} (h0 : -1000000000000000000 ≤ x) (h1 : x ≤ 1000000000000000000) : wrap64 x = x := by unfold wrap64; omega
theorem value_ev (t : List Int) (hd : ∀ x ∈ t, 48 ≤ x ∧ x ≤ 57) (hl : t.length ≤ 1000000) (n : Nat) : ∀ (i : Nat) (m : Int), i + n = t.length → 0 ≤ m → m ≤ 1099511627776 →
    Ev (fun k => pendulumref04_Value.l0 k (strOfNums t) m i) (match valGo m (t.drop i) with | none => (0, false) | some v => (v, true)) := by
  induction n with
  | zero =>
    intro i m hi h0 h1
    have e : t.drop i = [] := List.drop_eq_nil_of_le (by omega)
    rw [e]
    refine Ev.step (f := fun _ => some (m, true)) (fun k => ?_) (Ev.now _)
    simp only [pendulumref04_Value.l0]
    rw [strOfNums_size, if_neg (by omega)]
  | succ n ih =>
    intro i m hi h0 h1
    have hlt : i < t.length := by omega
    have hb := bt_str t hd i hlt
    have hx := hd _ (List.getElem_mem hlt)
    have hg : t.getD i 0 = t[i] := by simp [List.getD_eq_getElem?_getD, List.getElem?_eq_getElem hlt]
    rw [← hg] at hx
    rw [drop_getD t i hlt]
    simp only [valGo]
    have hw : wrap64 (wrap64 (wrap64 (10 * m) + wrap64 (bt (strOfNums t) (i : Int))) - 48) = 10 * m + (t.getD i 0 - 48) := by
      rw [hb, wrap_ok (x := 10 * m) (by omega) (by omega), wrap_ok (x := t.getD i 0) (by omega) (by omega), wrap_ok (x := 10 * m + t.getD i 0) (by omega) (by omega), wrap_ok (by omega) (by omega)]; omega
    by_cases ho : 10 * m + (t.getD i 0 - 48) > 1099511627776
    · rw [if_pos ho]
      refine Ev.step (f := fun _ => some (0, false)) (fun k => ?_) (Ev.now _)
      simp only [pendulumref04_Value.l0]
      rw [strOfNums_size, if_pos (by omega), if_pos (by omega), hw, if_pos ho]
    · rw [if_neg ho]
      have := ih (i + 1) (10 * m + (t.getD i 0 - 48)) (by omega) (by omega) (by omega)
      refine Ev.step (fun k => ?_) this
      simp only [pendulumref04_Value.l0]
      rw [strOfNums_size, if_pos (by omega), if_pos (by omega), hw, if_neg ho, wrap_ok (by omega) (by omega)]
      rfl
theorem Ev.at {α : Type} {g : Nat → Option α} {r : α} (h : Ev g r) : ∃ K, ∀ k, K ≤ k → g k = some r := h
theorem l1_ev (l xs : List _) (line b col : Int) (p : Nat) (r : List S33 × Int × Int × Int) (hl : l.length ≤ 1000000) (hx : xs.length ≤ 1000000) (e : Nat) (he : e ≤ l.length) (hpe : p ≤ e)
    (hr : Ev (fun k => pendulumref04_Tokens.l0 k l (xs ++ [⟨1, strOfNums ((l.take e).drop p), 0, line, col⟩]) line b e) r) (n : Nat) : ∀ j : Nat, j + n = l.length → p ≤ j → j + ((l.drop j).takeWhile wdB).length = e →
    Ev (fun k => pendulumref04_Tokens.l1 k l xs line b p col j) r := by
  obtain ⟨K, hK⟩ := hr
  induction n with
  | zero =>
    intro j hj hpj hje
    have hj' : j = e := span_end wdB l j e (by omega) hje
    subst hj'
    refine ⟨K + 1, fun k hk => ?_⟩
    obtain ⟨k, rfl⟩ : ∃ m, k = m + 1 := ⟨k - 1, by omega⟩
    simp only [pendulumref04_Tokens.l1]
    rw [if_neg (by omega), if_pos (by omega), if_pos (by omega), if_pos (by omega), if_pos (by omega)]
    exact hK k (by omega)
  | succ n ih =>
    intro j hj hpj hje
    have hlt : j < l.length := by omega
    by_cases hw : wdB (rd l j) = true
    · have h12 := (kindOf_word (rd l j)).2 hw
      obtain ⟨K2, hK2⟩ := ih (j + 1) (by omega) (by omega) (span_step wdB l j e hlt hw hje)
      refine ⟨K2 + 4, fun k hk => ?_⟩
      obtain ⟨k, rfl⟩ : ∃ m, k = m + 1 := ⟨k - 1, by omega⟩
      simp only [pendulumref04_Tokens.l1]
      rw [if_pos (by omega), if_pos (by omega), kind_at _ k (by omega)]
      simp only [Option.bind_some]
      rw [if_pos h12.1, if_pos h12.2, wrap_ok (by omega) (by omega)]
      exact hK2 k (by omega)
    · have h12 : ¬ (1 ≤ kindOf (rd l j) ∧ kindOf (rd l j) ≤ 3) := fun h => hw ((kindOf_word (rd l j)).1 h)
      have hj' : j = e := span_stop wdB l j e hlt (Bool.eq_false_iff.mpr hw) hje
      subst hj'
      refine ⟨K + 4, fun k hk => ?_⟩
      obtain ⟨k, rfl⟩ : ∃ m, k = m + 1 := ⟨k - 1, by omega⟩
      simp only [pendulumref04_Tokens.l1]
      rw [if_pos (by omega), if_pos (by omega), kind_at _ k (by omega)]
      simp only [Option.bind_some]
      have hK1 := hK k (by omega)
      by_cases h1 : kindOf (rd l j) ≥ 1
      · rw [if_pos h1, if_neg (by omega), if_pos (by omega), if_pos (by omega), if_pos (by omega), if_pos (by omega)]
        exact hK1
      · rw [if_neg h1, if_pos (by omega), if_pos (by omega), if_pos (by omega), if_pos (by omega)]
        exact hK1
theorem l3_ev (l xs : List _) (line b : Int) (r : List S33 × Int × Int × Int) (hl : l.length ≤ 1000000) (e : Nat)
    (hr : Ev (fun k => pendulumref04_Tokens.l0 k l xs line b e) r) (n : Nat) : ∀ j : Nat, j + n = l.length → j + ((l.drop j).takeWhile rkB).length = e →
    Ev (fun k => pendulumref04_Tokens.l3 k l xs line b j) r := by
  obtain ⟨K, hK⟩ := hr
  induction n with
  | zero =>
    intro j hj hje
    have hj' : j = e := span_end rkB l j e (by omega) hje
    subst hj'
    refine ⟨K + 1, fun k hk => ?_⟩
    obtain ⟨k, rfl⟩ : ∃ m, k = m + 1 := ⟨k - 1, by omega⟩
    simp only [pendulumref04_Tokens.l3]
    rw [if_neg (by omega)]
    exact hK k (by omega)
  | succ n ih =>
    intro j hj hje
    have hlt : j < l.length := by omega
    by_cases hw : rkB (rd l j) = true
    · have h5 : ¬ kindOf (rd l j) = 5 := fun h => by rw [(kindOf_line _).1 h] at hw; exact absurd hw (by decide)
      obtain ⟨K2, hK2⟩ := ih (j + 1) (by omega) (span_step rkB l j e hlt hw hje)
      refine ⟨K2 + 4, fun k hk => ?_⟩
      obtain ⟨k, rfl⟩ : ∃ m, k = m + 1 := ⟨k - 1, by omega⟩
      simp only [pendulumref04_Tokens.l3]
      rw [if_pos (by omega), if_pos (by omega), kind_at _ k (by omega)]
      simp only [Option.bind_some]
      rw [if_neg h5, wrap_ok (by omega) (by omega)]
      exact hK2 k (by omega)
    · have hc : rd l j = 10 := by unfold rkB at hw; simpa using hw
      have hj' : j = e := span_stop rkB l j e hlt (Bool.eq_false_iff.mpr hw) hje
      subst hj'
      refine ⟨K + 4, fun k hk => ?_⟩
      obtain ⟨k, rfl⟩ : ∃ m, k = m + 1 := ⟨k - 1, by omega⟩
      simp only [pendulumref04_Tokens.l3]
      rw [if_pos (by omega), if_pos (by omega), kind_at _ k (by omega)]
      simp only [Option.bind_some]
      rw [if_pos ((kindOf_line _).2 hc)]
      exact hK k (by omega)
/-- What stands behind a number's digits. -/
theorem l2_ev (l xs : List _) (line b col : Int) (p : Nat) (r : List S33 × Int × Int × Int) (hl : l.length ≤ 1000000) (hx : xs.length ≤ 1000000) (e : Nat) (he : e ≤ l.length) (hpe : p ≤ e) (hd : ∀ x ∈ (l.take e).drop p, 48 ≤ x ∧ x ≤ 57)
    (hr : match valGo 0 ((l.take e).drop p) with
      | none => r = ([], 2, line, col)
      | some v => Ev (fun k => pendulumref04_Tokens.l0 k l (xs ++ [⟨2, strOfNums ((l.take e).drop p), v, line, col⟩]) line b e) r) (n : Nat) : ∀ j : Nat, j + n = l.length → p ≤ j → j + ((l.drop j).takeWhile dgB).length = e →
    Ev (fun k => pendulumref04_Tokens.l2 k l xs line b p col j) r := by
  obtain ⟨K, hK⟩ : ∃ K, ∀ k, K ≤ k → ((pendulumref04_Value.f k (strOfNums ((l.take e).drop p))).bind fun bt128 => (if bt128.2 = true then (if xs.length < 2932031007402 then (pendulumref04_Tokens.l0 k l (xs ++ [(⟨2, strOfNums ((l.take e).drop p), bt128.1, line, col⟩ : S33)]) line b e) else (none)) else (some (([] : List S33), 2, line, col)))) = some r := by
    have hlt : ((l.take e).drop p).length ≤ 1000000 := by rw [List.length_drop, List.length_take]; omega
    obtain ⟨K1, hK1⟩ := value_ev ((l.take e).drop p) hd hlt ((l.take e).drop p).length 0 0 (by omega) (by omega) (by omega)
    rw [List.drop_zero] at hK1
    cases hv : valGo 0 ((l.take e).drop p) with
    | none =>
      rw [hv] at hr hK1
      refine ⟨K1, fun k hk => ?_⟩
      have := hK1 k hk
      unfold pendulumref04_Value.f
      simp only [Int.natCast_zero] at this
      rw [this]
      simp only [Option.bind_some]
      rw [if_neg (by decide), hr]
    | some v =>
      rw [hv] at hr hK1
      obtain ⟨K2, hK2⟩ := hr
      refine ⟨max K1 K2, fun k hk => ?_⟩
      have := hK1 k (by omega)
      unfold pendulumref04_Value.f
      simp only [Int.natCast_zero] at this
      rw [this]
      simp only [Option.bind_some]
      rw [if_pos trivial, if_pos (by omega)]
      exact hK2 k (by omega)
  clear hr
  induction n with
  | zero =>
    intro j hj hpj hje
    have hj' : j = e := span_end dgB l j e (by omega) hje
    subst hj'
    refine ⟨K + 1, fun k hk => ?_⟩
    obtain ⟨k, rfl⟩ : ∃ m, k = m + 1 := ⟨k - 1, by omega⟩
    simp only [pendulumref04_Tokens.l2]
    rw [if_neg (by omega), if_pos (by omega), if_pos (by omega), if_pos (by omega)]
    exact hK k (by omega)
  | succ n ih =>
    intro j hj hpj hje
    have hlt : j < l.length := by omega
    by_cases hw : dgB (rd l j) = true
    · obtain ⟨K2, hK2⟩ := ih (j + 1) (by omega) (by omega) (span_step dgB l j e hlt hw hje)
      refine ⟨K2 + 4, fun k hk => ?_⟩
      obtain ⟨k, rfl⟩ : ∃ m, k = m + 1 := ⟨k - 1, by omega⟩
      simp only [pendulumref04_Tokens.l2]
      rw [if_pos (by omega), if_pos (by omega), kind_at _ k (by omega)]
      simp only [Option.bind_some]
      rw [if_pos ((kindOf_digit _).2 hw), wrap_ok (by omega) (by omega)]
      exact hK2 k (by omega)
    · have hj' : j = e := span_stop dgB l j e hlt (Bool.eq_false_iff.mpr hw) hje
      subst hj'
      refine ⟨K + 4, fun k hk => ?_⟩
      obtain ⟨k, rfl⟩ : ∃ m, k = m + 1 := ⟨k - 1, by omega⟩
      simp only [pendulumref04_Tokens.l2]
      rw [if_pos (by omega), if_pos (by omega), kind_at _ k (by omega)]
      simp only [Option.bind_some]
      rw [if_neg (fun h => hw ((kindOf_digit _).1 h)), if_pos (by omega), if_pos (by omega), if_pos (by omega)]
      exact hK k (by omega)
theorem toks_end (f : Nat) (line col : Int) (xs : List S33) : toks (f + 1) [] line col xs = (xs ++ [⟨4, (⟨#[]⟩ : ByteArray), 0, line, col⟩], 0, 0, 0) := by simp only [toks]; rw [if_pos trivial]
theorem toks_err {f : Nat} {s : List Int} {line col : Int} {xs : List S33} (hs : s ≠ []) (he : (piece s).1 ≠ 0) : toks (f + 1) s line col xs = ([], (piece s).1, line, col) := by simp only [toks]; rw [if_neg hs, if_pos he]
theorem toks_go {f : Nat} {s : List Int} {line col : Int} {xs : List S33} (hs : s ≠ []) (he : (piece s).1 = 0) : toks (f + 1) s line col xs = toks f (s.drop (piece s).2.1) (if (piece s).2.2.2 = true then line + 1 else line) (if (piece s).2.2.2 = true then 1 else col + (piece s).2.1) (xs ++ tokL (piece s).2.2.1 line col) := by simp only [toks]; rw [if_neg hs, if_neg (by rw [he]; exact fun h => h rfl)]
theorem l0_ev (l : List Int) (hl : l.length ≤ 1000000) (hok : okBytes l = true) (f : Nat) : ∀ (p : Nat) (xs : List S33) (line b : Int), l.length < p + f → p ≤ l.length → xs.length ≤ p → 1 ≤ line → line ≤ p + 1 → 0 ≤ b → b ≤ p →
    Ev (fun k => pendulumref04_Tokens.l0 k l xs line b p) (toks f (l.drop p) line (p - b + 1) xs) := by
  induction f with
  | zero => intro p xs line b h1 h2; omega
  | succ f ih =>
    intro p xs line b hf hpl hxl hli0 hli1 hb0 hb1
    by_cases hlt : p < l.length
    · have hd := drop_rd l p hlt
      have hne : l.drop p ≠ [] := by rw [hd]; simp
      have hcol : wrap64 (wrap64 ((p : Int) - b) + 1) = p - b + 1 := by rw [wrap_ok (x := (p : Int) - b) (by omega) (by omega), wrap_ok (by omega) (by omega)]
      have hp1 : wrap64 ((p : Int) + 1) = ((p + 1 : Nat) : Int) := by rw [wrap_ok (by omega) (by omega)]; rfl
      -- one round of the reference, by what the byte is
      have one : ∀ {K : Nat} {v r : _} (F : Nat → Option (List S33 × Int × Int × Int)), kindOf (rd l p) = v → (∀ k, K ≤ k → F k = some r) → (∀ k, 3 ≤ k → pendulumref04_Tokens.l0 (k + 1) l xs line b p = F k) → Ev (fun k => pendulumref04_Tokens.l0 k l xs line b p) r := by
        intro K v r F _ hF h
        refine ⟨max K 3 + 1, fun k hk => ?_⟩
        obtain ⟨k, rfl⟩ : ∃ m, k = m + 1 := ⟨k - 1, by omega⟩
        exact (h k (by omega)).trans (hF k (by omega))
      rcases piece_ways (rd l p) (l.drop (p + 1)) with h | ⟨h1, h2, ⟨n, h⟩ | h⟩ | h | h | h | h | ⟨h1, h2, h3, h4, h5, h6⟩
      · -- a word
        have hpc := piece_word (s := l.drop (p + 1)) h
        rw [← hd] at hpc
        rw [toks_go hne (by rw [hpc]), hpc]
        simp only [tokL, List.drop_drop]
        rw [if_neg Bool.false_ne_true, if_neg Bool.false_ne_true]
        obtain ⟨e, he⟩ : ∃ e, p + ((l.drop p).takeWhile wdB).length = e := ⟨_, rfl⟩
        have hte := takeWhile_le wdB (l.drop p)
        rw [List.length_drop] at hte
        have hpos : 1 ≤ ((l.drop p).takeWhile wdB).length := by rw [hd]; exact takeWhile_pos _ _ _ (sm_wd h)
        have hts := take_span wdB l p
        rw [he] at hts
        have hih := ih e (xs ++ [⟨1, strOfNums ((l.drop p).takeWhile wdB), 0, line, (p : Int) - b + 1⟩]) line b (by omega) (by omega) (by simp; omega) hli0 (by omega) hb0 (by omega)
        have h1 := l1_ev l xs line b (p - b + 1) p _ hl (by omega) e (by omega) (by omega) (by rw [hts]; exact hih) (l.length - (p + 1)) (p + 1) (by omega) (by omega) (span_step wdB l p e hlt (sm_wd h) he)
        rw [he, show (p : Int) - b + 1 + (((l.drop p).takeWhile wdB).length : Int) = (e : Int) - b + 1 from by omega]
        obtain ⟨K, hK⟩ := h1
        refine one _ rfl hK (fun k hk => ?_)
        simp only [pendulumref04_Tokens.l0]
        rw [if_pos (by omega), if_pos (by omega), kind_at _ k hk]
        simp only [Option.bind_some]
        rw [if_pos (kindOf_sm h), hcol, hp1]
      · -- a number
        have hpc := piece_number (s := l.drop (p + 1)) h1 h2 h
        rw [← hd] at hpc h
        rw [toks_go hne (by rw [hpc]), hpc]
        simp only [tokL, List.drop_drop]
        rw [if_neg Bool.false_ne_true, if_neg Bool.false_ne_true]
        obtain ⟨e, he⟩ : ∃ e, p + ((l.drop p).takeWhile dgB).length = e := ⟨_, rfl⟩
        have hte := takeWhile_le dgB (l.drop p)
        rw [List.length_drop] at hte
        have hpos : 1 ≤ ((l.drop p).takeWhile dgB).length := by rw [hd]; exact takeWhile_pos _ _ _ h2
        have hts := take_span dgB l p
        rw [he] at hts
        have hih := ih e (xs ++ [⟨2, strOfNums ((l.drop p).takeWhile dgB), n, line, (p : Int) - b + 1⟩]) line b (by omega) (by omega) (by simp; omega) hli0 (by omega) hb0 (by omega)
        have hl2 := l2_ev l xs line b (p - b + 1) p _ hl (by omega) e (by omega) (by omega) (by rw [hts]; exact take_digits_ok hok p) (by rw [hts, h]; exact hih) (l.length - (p + 1)) (p + 1) (by omega) (by omega) (span_step dgB l p e hlt h2 he)
        rw [he, show (p : Int) - b + 1 + (((l.drop p).takeWhile dgB).length : Int) = (e : Int) - b + 1 from by omega]
        obtain ⟨K, hK⟩ := hl2
        refine one _ rfl hK (fun k hk => ?_)
        simp only [pendulumref04_Tokens.l0]
        rw [if_pos (by omega), if_pos (by omega), kind_at _ k hk]
        simp only [Option.bind_some]
        rw [kindOf_dg h1 h2, if_neg (by decide), if_pos rfl, hcol, hp1]
      · -- a number that is over
        have hpc := piece_over (s := l.drop (p + 1)) h1 h2 h
        rw [← hd] at hpc h
        rw [toks_err hne (by rw [hpc]; decide), hpc]
        obtain ⟨e, he⟩ : ∃ e, p + ((l.drop p).takeWhile dgB).length = e := ⟨_, rfl⟩
        have hte := takeWhile_le dgB (l.drop p)
        rw [List.length_drop] at hte
        have hpos : 1 ≤ ((l.drop p).takeWhile dgB).length := by rw [hd]; exact takeWhile_pos _ _ _ h2
        have hts := take_span dgB l p
        rw [he] at hts
        have hl2 := l2_ev l xs line b (p - b + 1) p ([], 2, line, (p : Int) - b + 1) hl (by omega) e (by omega) (by omega) (by rw [hts]; exact take_digits_ok hok p) (by rw [hts, h]) (l.length - (p + 1)) (p + 1) (by omega) (by omega) (span_step dgB l p e hlt h2 he)
        obtain ⟨K, hK⟩ := hl2
        refine one _ rfl hK (fun k hk => ?_)
        simp only [pendulumref04_Tokens.l0]
        rw [if_pos (by omega), if_pos (by omega), kind_at _ k hk]
        simp only [Option.bind_some]
        rw [kindOf_dg h1 h2, if_neg (by decide), if_pos rfl, hcol, hp1]
      · -- a line's end
        have hpc : piece (l.drop p) = (0, 1, some (3, (⟨#[]⟩ : ByteArray), 0), true) := by rw [hd, h]; exact piece_line _
        rw [toks_go hne (by rw [hpc]), hpc]
        simp only [tokL, List.drop_drop]
        rw [if_pos trivial, if_pos trivial]
        have hih := ih (p + 1) (xs ++ [⟨3, (⟨#[]⟩ : ByteArray), 0, line, (p : Int) - b + 1⟩]) (line + 1) (p + 1 : Nat) (by omega) (by omega) (by simp; omega) (by omega) (by omega) (by omega) (by omega)
        rw [show ((p + 1 : Nat) : Int) - ((p + 1 : Nat) : Int) + 1 = 1 from by omega] at hih
        obtain ⟨K, hK⟩ := hih
        refine one _ rfl hK (fun k hk => ?_)
        simp only [pendulumref04_Tokens.l0]
        rw [if_pos (by omega), if_pos (by omega), kind_at _ k hk]
        simp only [Option.bind_some]
        rw [(kindOf_line _).2 h, if_neg (by decide), if_neg (by decide), if_pos rfl, if_pos (by omega), hcol, hp1, wrap_ok (x := line + 1) (by omega) (by omega)]
      · have hpc : piece (l.drop p) = (0, 1, none, false) := by rw [hd, h]; exact piece_space _
        rw [toks_go hne (by rw [hpc]), hpc]
        simp only [tokL, List.drop_drop, List.append_nil]
        rw [if_neg Bool.false_ne_true, if_neg Bool.false_ne_true]
        have hih := ih (p + 1) xs line b (by omega) (by omega) (by omega) (by omega) (by omega) (by omega) (by omega)
        rw [show (p : Int) - b + 1 + ((1 : Nat) : Int) = ((p + 1 : Nat) : Int) - b + 1 from by omega]
        obtain ⟨K, hK⟩ := hih
        refine one _ rfl hK (fun k hk => ?_)
        simp only [pendulumref04_Tokens.l0]
        rw [if_pos (by omega), if_pos (by omega), kind_at _ k hk]
        simp only [Option.bind_some]
        rw [show kindOf (rd l p) = 4 from by rw [h]; rfl, if_neg (by decide), if_neg (by decide), if_neg (by decide), if_neg (by decide), if_pos rfl, hp1]
      · have hpc : piece (l.drop p) = (0, 1, none, false) := by rw [hd, h]; exact piece_tab _
        rw [toks_go hne (by rw [hpc]), hpc]
        simp only [tokL, List.drop_drop, List.append_nil]
        rw [if_neg Bool.false_ne_true, if_neg Bool.false_ne_true]
        have hih := ih (p + 1) xs line b (by omega) (by omega) (by omega) (by omega) (by omega) (by omega) (by omega)
        rw [show (p : Int) - b + 1 + ((1 : Nat) : Int) = ((p + 1 : Nat) : Int) - b + 1 from by omega]
        obtain ⟨K, hK⟩ := hih
        refine one _ rfl hK (fun k hk => ?_)
        simp only [pendulumref04_Tokens.l0]
        rw [if_pos (by omega), if_pos (by omega), kind_at _ k hk]
        simp only [Option.bind_some]
        rw [show kindOf (rd l p) = 4 from by rw [h]; rfl, if_neg (by decide), if_neg (by decide), if_neg (by decide), if_neg (by decide), if_pos rfl, hp1]
      · -- a remark
        have hpc : piece (l.drop p) = (0, ((l.drop p).takeWhile rkB).length, none, false) := by rw [hd, h]; exact piece_remark _
        rw [toks_go hne (by rw [hpc]), hpc]
        simp only [tokL, List.drop_drop, List.append_nil]
        rw [if_neg Bool.false_ne_true, if_neg Bool.false_ne_true]
        obtain ⟨e, he⟩ : ∃ e, p + ((l.drop p).takeWhile rkB).length = e := ⟨_, rfl⟩
        have hte := takeWhile_le rkB (l.drop p)
        rw [List.length_drop] at hte
        have hrk : rkB (rd l p) = true := by rw [h]; rfl
        have hpos : 1 ≤ ((l.drop p).takeWhile rkB).length := by rw [hd]; exact takeWhile_pos _ _ _ hrk
        have hih := ih e xs line b (by omega) (by omega) (by omega) hli0 (by omega) hb0 (by omega)
        have h3 := l3_ev l xs line b _ hl e hih (l.length - (p + 1)) (p + 1) (by omega) (span_step rkB l p e hlt hrk he)
        rw [he, show (p : Int) - b + 1 + (((l.drop p).takeWhile rkB).length : Int) = (e : Int) - b + 1 from by omega]
        obtain ⟨K, hK⟩ := h3
        refine one _ rfl hK (fun k hk => ?_)
        simp only [pendulumref04_Tokens.l0]
        rw [if_pos (by omega), if_pos (by omega), kind_at _ k hk]
        simp only [Option.bind_some]
        rw [show kindOf (rd l p) = 6 from by rw [h]; rfl, if_neg (by decide), if_neg (by decide), if_neg (by decide), if_pos rfl, hp1]
      · -- what may not be
        have hpc := piece_bad (s := l.drop (p + 1)) h1 h2 h3 h4 h5 h6
        rw [← hd] at hpc
        rw [toks_err hne (by rw [hpc]; decide), hpc]
        refine one (K := 0) (fun _ => some ([], 5, line, (p : Int) - b + 1)) rfl (fun _ _ => rfl) (fun k hk => ?_)
        simp only [pendulumref04_Tokens.l0]
        rw [if_pos (by omega), if_pos (by omega), kind_at _ k hk]
        simp only [Option.bind_some]
        have := kindOf_bad h1 h2 h3 h4 h5 h6
        rw [if_neg (by omega), if_neg (by omega), if_neg (by omega), if_neg (by omega), if_neg (by omega), hcol]
    · have e : p = l.length := by omega
      rw [List.drop_eq_nil_of_le (by omega), toks_end]
      refine ⟨1, fun k hk => ?_⟩
      obtain ⟨k, rfl⟩ : ∃ m, k = m + 1 := ⟨k - 1, by omega⟩
      simp only [pendulumref04_Tokens.l0]
      rw [if_neg (by omega), if_pos (by omega), wrap_ok (x := (l.length : Int) - b) (by omega) (by omega), wrap_ok (by omega) (by omega), e]
theorem ref_tokens (l : List Int) (hl : l.length ≤ 1000000) (hok : okBytes l = true) : Ev (fun k => pendulumref04_Tokens.f k l) (lexToks l) := by
  have h := l0_ev l hl hok (l.length + 1) 0 [] 1 0 (by omega) (by omega) (by simp) (by omega) (by omega) (by omega) (by omega)
  rw [List.drop_zero] at h
  exact h
theorem same_ev (a : List S33) (ha : a.length ≤ 2000000) : Ev (fun k => pendulumref04_Same.f k a a) true := by
  have h : ∀ n i : Nat, i + n = a.length → Ev (fun k => pendulumref04_Same.l0 k a a i) true := by
    intro n
    induction n with
    | zero =>
      intro i hi
      refine ⟨1, fun k hk => ?_⟩
      obtain ⟨k, rfl⟩ : ∃ m, k = m + 1 := ⟨k - 1, by omega⟩
      simp only [pendulumref04_Same.l0]
      rw [if_neg (by omega)]
    | succ n ih =>
      intro i hi
      obtain ⟨K, hK⟩ := ih (i + 1) (by omega)
      refine ⟨K + 1, fun k hk => ?_⟩
      obtain ⟨k, rfl⟩ : ∃ m, k = m + 1 := ⟨k - 1, by omega⟩
      simp only [pendulumref04_Same.l0]
      rw [if_pos (by omega), if_pos (by omega), if_pos (by omega), if_neg (by simp), wrap_ok (by omega) (by omega)]
      exact hK k (by omega)
  obtain ⟨K, hK⟩ := h a.length 0 (by omega)
  refine ⟨K, fun k hk => ?_⟩
  show pendulumref04_Same.f k a a = some true
  unfold pendulumref04_Same.f
  rw [if_pos rfl]
  exact hK k hk
theorem ok_of_wf {l : List Int} (h : ∀ x ∈ l, (Lit.int .u8 x).wf = true) : okBytes l = true := by
  refine List.all_eq_true.2 fun x hx => ?_
  have := Go.bounds_u8 (h x hx)
  simp
  omega
theorem lex_some {l : List Int} (hl : l.length ≤ 1000000) (hok : okBytes l = true) : lex_Tokens.f l = some (lexToks l) := by
  unfold lex_Tokens.f; rw [if_pos ⟨hok, hl⟩]
theorem toks_len (f : Nat) : ∀ (s : List Int) (line col : Int) (xs : List S33), (toks f s line col xs).1.length ≤ xs.length + s.length + 1 := by
  induction f with
  | zero => intros; simp [toks]
  | succ f ih =>
    intro s line col xs
    by_cases hs : s = []
    · subst hs; rw [toks_end]; simp
    · by_cases he : (piece s).1 = 0
      · rw [toks_go hs he]
        refine Nat.le_trans (ih _ _ _ _) ?_
        have h1 := piece_pos hs he
        have h2 := piece_le s
        have h3 : (tokL (piece s).2.2.1 line col).length ≤ 1 := by unfold tokL; split <;> simp
        rw [List.length_append, List.length_drop]; omega
      · rw [toks_err hs he]; simp
end Go.Proofs.Ytbopjoeihoignaa.Q
