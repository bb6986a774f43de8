-- A printed set is read as it was (no program in sight).
-- PLAIN
import Derived.Test.YtadfcdpalcgghaaDoorM0
import Derived.Test.YtadfcdpalcgghaaDoorQ15
import Derived.Test.YtadfcdpalcgghaaDoorHparsF
import Derived.Test.YtadfcdpalcgghaaDoorHparsG
import Derived.Test.YtadfcdpalcgghaaDoorHprtC
import Derived.Test.YtadfcdpalcgghaaDoorLlexJ
import Derived.Test.YtadfcdpalcgghaaDoorM21
import Derived.Test.YtadfcdpalcgghaaDoorM12
import Derived.Test.YtadfcdpalcgghaaDoorLprtS
namespace Go.Proofs.YtadfcdpalcgghaaDoor.Q
open Go.RowKit Go.Proofs.YtadfcdpalcgghaaDoorW.PrintWords Go.Proofs.YtadfcdpalcgghaaDoorW.PrintLast Go.Proofs.YtadfcdpalcgghaaDoorW.PrintMore
attribute [local go_sem] max2_int min2_int max_two min_two max_three min_three max_four min_four   -- for this text's walks alone
set_option linter.unusedVariables false
set_option linter.unusedSimpArgs false

def ns (l : List UInt8) : List Int := l.map (fun c => (c.toNat : Int))
theorem ns_app (a b : List UInt8) : ns (a ++ b) = ns a ++ ns b := by unfold ns; rw [List.map_append]
theorem ns_cons (a : UInt8) (b : List UInt8) : ns (a :: b) = (a.toNat : Int) :: ns b := rfl
theorem ns_len (a : List UInt8) : (ns a).length = a.length := by unfold ns; rw [List.length_map]
theorem str_ns (w : List UInt8) : strOfNums (ns w) = ⟨w.toArray⟩ := by
 unfold strOfNums ns
 rw [List.map_map]
 have e : ((fun n : Int => UInt8.ofNat n.toNat) ∘ fun c : UInt8 => (c.toNat : Int)) = id := by
  funext c
  show UInt8.ofNat ((c.toNat : Int)).toNat = c
  rw [Int.toNat_natCast]
  exact UInt8.ofNat_toNat
 rw [e, List.map_id]
theorem bytes_ns (l : List UInt8) : bytesOf (⟨l.toArray⟩ : ByteArray) = ns l := rfl
theorem ns_ok (l : List UInt8) : okBytes (ns l) = true := by
 unfold okBytes ns
 rw [List.all_eq_true]
 intro x hx
 obtain ⟨c, _, rfl⟩ := List.mem_map.1 hx
 have := c.toNat_lt
 simp only [Bool.and_eq_true, decide_eq_true_eq]
 omega
/-- A word's token, but for its place. -/
def tokOf (w : List UInt8) : Option (Int × ByteArray × Int) :=
 match w with
 | [] => none
 | c :: _ => if smB (c.toNat : Int) = true then (if (ns w).all wdB = true then some (1, ⟨w.toArray⟩, 0) else none) else if (ns w).all dgB = true then (valGo 0 (ns w)).map (fun v => (2, (⟨w.toArray⟩ : ByteArray), v)) else none
theorem val_snoc : ∀ (l : List Int) (m c : Int), valGo m (l ++ [c]) = (valGo m l).bind fun n => if 10 * n + (c - 48) > 1099511627776 then none else some (10 * n + (c - 48))
 | [], m, c => by simp only [List.nil_append, valGo, Option.bind_some]
 | d :: l, m, c => by
  simp only [List.cons_append, valGo]
  split
  ·rfl
  ·exact val_snoc l _ c
theorem val_dec (n : Nat) (hn : n ≤ 1099511627776) : valGo 0 (ns (Lib.decDigits n)) = some (n : Int) := by
 induction n using Nat.strongRecOn with
 | _ n ih =>
  have key : ∀ v : Nat, v < 10 → ((UInt8.ofNat (48 + v)).toNat : Int) = 48 + (v : Int) := fun v hv => by
   rcases (by omega : v = 0 ∨ v = 1 ∨ v = 2 ∨ v = 3 ∨ v = 4 ∨ v = 5 ∨ v = 6 ∨ v = 7 ∨ v = 8 ∨ v = 9) with rfl | rfl | rfl | rfl | rfl | rfl | rfl | rfl | rfl | rfl <;> decide
  by_cases h : n < 10
  ·rw [Lib.decDigits_one h]
   simp only [ns, List.map_cons, List.map_nil, key n h, valGo]
   rw [if_neg (by omega)]
   congr 1
   omega
  ·rw [Lib.decDigits, dif_neg h, ns_app, show ns [UInt8.ofNat (48 + n % 10)] = [48 + ((n % 10 : Nat) : Int)] by simp only [ns, List.map_cons, List.map_nil, key (n % 10) (by omega)], val_snoc, ih (n / 10) (by omega) (by omega), Option.bind_some, if_neg (by omega)]
   congr 1
   omega
theorem dg_dec (n : Nat) : Lib.decDigits n ≠ [] ∧ ∀ x ∈ ns (Lib.decDigits n), dgB x = true := by
 have h := dec_digits n
 refine ⟨h.1, fun x hx => ?_⟩
 obtain ⟨c, hc, rfl⟩ := List.mem_map.1 hx
 have := h.2 c hc
 unfold dgB
 simp only [Bool.and_eq_true, decide_eq_true_eq]
 omega
theorem tw_self {P : Int → Bool} : ∀ (w : List Int), (∀ x ∈ w, P x = true) → w.takeWhile P = w
 | [], _ => rfl
 | c :: w, h => by rw [List.takeWhile_cons, if_pos (h c (by simp)), tw_self w (fun x hx => h x (List.mem_cons_of_mem _ hx))]
theorem tw_word {P : Int → Bool} (w : List Int) (h : Int) (t : List Int) (hw : ∀ x ∈ w, P x = true) (hh : P h = false) : (w ++ h :: t).takeWhile P = w := by
 rw [tw_stop hh]
 exact tw_self w hw
theorem sm_not_dg {c : Int} (h : dgB c = true) : ¬ smB c = true := by
 unfold dgB at h; unfold smB
 simp only [Bool.and_eq_true, decide_eq_true_eq] at h ⊢
 omega
/-- The first piece of a word and what isn't in one. -/
theorem piece_tok {w : List UInt8} {k : Int} {s : ByteArray} {v : Int} (h : tokOf w = some (k, s, v)) (b : Int) (r : List Int) (hb : b = 32 ∨ b = 10) : piece (ns w ++ b :: r) = (0, w.length, some (k, s, v), false) := by
 have hwb : wdB b = false := by rcases hb with rfl | rfl <;> rfl
 have hdb : dgB b = false := by rcases hb with rfl | rfl <;> rfl
 cases w with
 | nil => cases h
 | cons c w =>
  unfold tokOf at h
  simp only at h
  by_cases hc : smB (c.toNat : Int) = true
  ·rw [if_pos hc] at h
   by_cases hw : (ns (c :: w)).all wdB = true
   ·rw [if_pos hw] at h
    have e : (ns (c :: w) ++ b :: r).takeWhile wdB = ns (c :: w) := tw_word _ _ _ (fun x hx => List.all_eq_true.1 hw x hx) hwb
    rw [← Option.some.inj h, ns_cons, List.cons_append] at *
    rw [piece_word hc, e, ← ns_cons, str_ns, ns_len]
   ·rw [if_neg hw] at h; cases h
  ·rw [if_neg hc] at h
   by_cases hw : (ns (c :: w)).all dgB = true
   ·rw [if_pos hw] at h
    obtain ⟨n, hn, hv⟩ := Option.map_eq_some_iff.1 h
    have e : (ns (c :: w) ++ b :: r).takeWhile dgB = ns (c :: w) := tw_word _ _ _ (fun x hx => List.all_eq_true.1 hw x hx) hdb
    have hd : dgB (c.toNat : Int) = true := List.all_eq_true.1 hw _ (by rw [ns_cons]; exact List.mem_cons_self)
    rw [← hv]
    rw [ns_cons, List.cons_append] at e ⊢
    rw [piece_number hc hd (by rw [e, ← ns_cons]; exact hn), e, ← ns_cons, str_ns, ns_len]
   ·rw [if_neg hw] at h; cases h
def stripT (t : TOK) : Int × ByteArray × Int := (t.f0, t.f1, t.f2)
/-- Words, read as tokens. -/
def ReadW (ws : List (List UInt8)) (ys : List TOK) : Prop := ws.map tokOf = ys.map (fun y => some (stripT y))
theorem tokOf_ne {w : List UInt8} {x : Int × ByteArray × Int} (h : tokOf w = some x) : w ≠ [] := by
 rintro rfl; cases h
theorem toks_line : ∀ (ws : List (List UInt8)) (_ : ws ≠ []) (_ : ∀ w ∈ ws, (tokOf w).isSome = true) (r : List UInt8) (F : Nat) (line col : Int) (xs : List TOK), (lineW ws r).length < F →
  ∃ (ys : List TOK) (C : Int), ReadW ws ys ∧ toks F (ns (lineW ws r)) line col xs = toks (r.length + 1) (ns r) (line + 1) 1 (xs ++ ys ++ [⟨3, (⟨#[]⟩ : ByteArray), 0, line, C⟩])
 | [], h, _, _, _, _, _, _, _ => absurd rfl h
 | [w], _, hw, r, F, line, col, xs, hF => by
  obtain ⟨⟨k, s, v⟩, ht⟩ := Option.isSome_iff_exists.1 (hw w (by simp))
  have hne := tokOf_ne ht
  rw [lineW] at hF ⊢
  rw [List.length_append, List.length_cons] at hF
  have hwp : 0 < w.length := List.length_pos_iff.2 hne
  obtain ⟨F, rfl⟩ : ∃ m, F = m + 2 := ⟨F - 2, by omega⟩
  rw [ns_app, ns_cons, show ((10 : UInt8).toNat : Int) = 10 from rfl]
  have hp := piece_tok ht 10 (ns r) (.inr rfl)
  have n1 : ns w ++ 10 :: ns r ≠ [] := by simp
  refine ⟨[⟨k, s, v, line, col⟩], col + w.length, ?_, ?_⟩
  ·unfold ReadW; simp [ht, stripT]
  ·rw [toks_go n1 (by rw [hp]), hp]
   simp only [tokL]
   rw [if_neg Bool.false_ne_true, if_neg Bool.false_ne_true, List.drop_append_of_le_length (by rw [ns_len]; exact Nat.le_refl _), List.drop_of_length_le (by rw [ns_len]; exact Nat.le_refl _), List.nil_append, toks_go (by simp) (by rw [piece_line]), piece_line]
   simp only [tokL, List.drop_succ_cons, List.drop_zero]
   rw [if_pos trivial, if_pos trivial]
   exact toks_fuel _ (ns r) (Nat.le_refl _) _ _ _ _ _ (by rw [ns_len]; omega) (by rw [ns_len]; omega)
 | w :: u :: ws, _, hw, r, F, line, col, xs, hF => by
  obtain ⟨⟨k, s, v⟩, ht⟩ := Option.isSome_iff_exists.1 (hw w (by simp))
  have hne := tokOf_ne ht
  have hwp : 0 < w.length := List.length_pos_iff.2 hne
  rw [lineW] at hF ⊢
  rw [List.length_append, List.length_cons] at hF
  obtain ⟨F, rfl⟩ : ∃ m, F = m + 2 := ⟨F - 2, by omega⟩
  rw [ns_app, ns_cons, show ((32 : UInt8).toNat : Int) = 32 from rfl]
  have hp := piece_tok ht 32 (ns (lineW (u :: ws) r)) (.inl rfl)
  obtain ⟨ys, C, hR, hE⟩ := toks_line (u :: ws) (by simp) (fun x hx => hw x (List.mem_cons_of_mem _ hx)) r F line (col + w.length + 1) (xs ++ [⟨k, s, v, line, col⟩]) (by omega)
  refine ⟨⟨k, s, v, line, col⟩ :: ys, C, ?_, ?_⟩
  ·unfold ReadW at hR ⊢
   rw [List.map_cons, hR, List.map_cons, ht]; rfl
  ·rw [toks_go (by simp) (by rw [hp]), hp]
   simp only [tokL]
   rw [if_neg Bool.false_ne_true, if_neg Bool.false_ne_true, List.drop_append_of_le_length (by rw [ns_len]; exact Nat.le_refl _), List.drop_of_length_le (by rw [ns_len]; exact Nat.le_refl _), List.nil_append, toks_go (by simp) (by rw [piece_space]), piece_space]
   simp only [tokL, List.drop_succ_cons, List.drop_zero, List.append_nil]
   rw [if_neg Bool.false_ne_true, if_neg Bool.false_ne_true]
   rw [show col + (w.length : Int) + ((1 : Nat) : Int) = col + w.length + 1 from rfl, hE]
   simp
/-- Lines of tasks, read. -/
inductive ReadL : List TK → List TOK → Prop
 | nil (l c : Int) : ReadL [] [⟨4, (⟨#[]⟩ : ByteArray), 0, l, c⟩]
 | cons (t : TK) (ts : List TK) (ys rest : List TOK) (l c : Int) (hy : ReadW (wordsT t) ys) (h : ReadL ts rest) : ReadL (t :: ts) (ys ++ ⟨3, (⟨#[]⟩ : ByteArray), 0, l, c⟩ :: rest)
theorem toks_lines : ∀ (ts : List TK) (_ : ∀ t ∈ ts, ∀ w ∈ wordsT t, (tokOf w).isSome = true) (F : Nat) (line : Int) (xs : List TOK), (linesB ts).length < F →
  ∃ ys, ReadL ts ys ∧ toks F (ns (linesB ts)) line 1 xs = (xs ++ ys, 0, 0, 0)
 | [], _, F, line, xs, hF => by
  obtain ⟨F, rfl⟩ : ∃ m, F = m + 1 := ⟨F - 1, by omega⟩
  exact ⟨_, .nil line 1, toks_end F line 1 xs⟩
 | t :: ts, hw, F, line, xs, hF => by
  rw [lines_words] at hF ⊢
  obtain ⟨ys, C, hR, hE⟩ := toks_line (wordsT t) (by simp [wordsT]) (hw t (by simp)) (linesB ts) F line 1 xs hF
  obtain ⟨zs, hZ, hE2⟩ := toks_lines ts (fun x hx => hw x (List.mem_cons_of_mem _ hx)) ((linesB ts).length + 1) (line + 1) (xs ++ ys ++ [⟨3, (⟨#[]⟩ : ByteArray), 0, line, C⟩]) (by omega)
  refine ⟨_, .cons t ts ys zs line C hR hZ, ?_⟩
  rw [hE, hE2]
  simp
theorem toks_text (b : Int) (ts : List TK) (hb : ∀ w ∈ wordsB b, (tokOf w).isSome = true) (ht : ∀ t ∈ ts, ∀ w ∈ wordsT t, (tokOf w).isSome = true) :
  ∃ (y0 : List TOK) (l c : Int) (ys : List TOK), ReadW (wordsB b) y0 ∧ ReadL ts ys ∧ lexToks (ns (textB b ts)) = (y0 ++ ⟨3, (⟨#[]⟩ : ByteArray), 0, l, c⟩ :: ys, 0, 0, 0) := by
 rw [text_words]
 unfold lexToks
 obtain ⟨y0, C, hR, hE⟩ := toks_line (wordsB b) (by simp [wordsB]) hb (linesB ts) ((ns (lineW (wordsB b) (linesB ts))).length + 1) 1 1 [] (by rw [ns_len]; omega)
 obtain ⟨ys, hY, hE2⟩ := toks_lines ts ht ((linesB ts).length + 1) (1 + 1) ([] ++ y0 ++ [⟨3, (⟨#[]⟩ : ByteArray), 0, 1, C⟩]) (by omega)
 refine ⟨y0, 1, C, ys, hR, hY, ?_⟩
 rw [hE, hE2]
 simp
/-- A right task's words are tokens. -/
theorem tok_int {n : Int} (h0 : 0 ≤ n) (h1 : n ≤ 1099511627776) : tokOf (Lib.itoa n) = some (2, ⟨(Lib.itoa n).toArray⟩, n) := by
 obtain ⟨u, rfl⟩ : ∃ u : Nat, n = u := ⟨n.toNat, by omega⟩
 rw [Lib.itoa_nonneg]
 obtain ⟨d1, d2⟩ := dg_dec u
 have hv := val_dec u (by omega)
 generalize Lib.decDigits u = d at d1 d2 hv
 cases d with
 | nil => exact absurd rfl d1
 | cons c t =>
  have hc := d2 (c.toNat : Int) (by rw [ns_cons]; exact List.mem_cons_self)
  unfold tokOf
  simp only
  rw [if_neg (sm_not_dg hc), if_pos (List.all_eq_true.2 d2), hv]
  rfl
theorem sm_all : ∀ n : Fin 256, nLetters.contains (UInt8.ofNat n.val) = true → smB (n.val : Int) = true := by decide +kernel
theorem wd_all : ∀ n : Fin 256, nOthers.contains (UInt8.ofNat n.val) = true → wdB (n.val : Int) = true := by decide +kernel
theorem letters_sm (c : UInt8) (h : nLetters.contains c = true) : smB (c.toNat : Int) = true :=
 sm_all ⟨c.toNat, c.toNat_lt⟩ (by show nLetters.contains (UInt8.ofNat c.toNat) = true; rw [UInt8.ofNat_toNat]; exact h)
theorem others_wd (c : UInt8) (h : nOthers.contains c = true) : wdB (c.toNat : Int) = true :=
 wd_all ⟨c.toNat, c.toNat_lt⟩ (by show nOthers.contains (UInt8.ofNat c.toNat) = true; rw [UInt8.ofNat_toNat]; exact h)
theorem tok_named {s : ByteArray} (h : named s = true) : tokOf s.data.toList = some (1, s, 0) := by
 obtain ⟨h1, h2, h3⟩ := named_all h
 have hs : s = ⟨s.data.toList.toArray⟩ := by cases s; simp
 generalize hd : s.data.toList = d at *
 rw [hs]
 cases d with
 | nil => exact absurd rfl h1
 | cons c t =>
  have hc : smB (c.toNat : Int) = true := by
   have := h3 c t rfl
   exact letters_sm c this
  unfold tokOf
  simp only
  rw [if_pos hc, if_pos (List.all_eq_true.2 (fun x hx => by
   obtain ⟨y, hy, rfl⟩ := List.mem_map.1 hx
   exact others_wd y (h2 y hy)))]
theorem tok_mode (m : Int) : tokOf (modeW m).data.toList = some (1, modeW m, 0) := by
 unfold modeW
 split
 ·rfl
 ·split
  ·rfl
  ·split
   ·rfl
   ·rfl
def wordT (t : TK) : List (Int × ByteArray × Int) := [(1, wTask, 0), (1, t.f0, 0), (2, ⟨(Lib.itoa t.f1).toArray⟩, t.f1), (2, ⟨(Lib.itoa t.f2).toArray⟩, t.f2), (2, ⟨(Lib.itoa t.f3).toArray⟩, t.f3), (1, modeW t.f9, 0), (2, ⟨(Lib.itoa t.f4).toArray⟩, t.f4), (2, ⟨(Lib.itoa t.f5).toArray⟩, t.f5), (2, ⟨(Lib.itoa t.f6).toArray⟩, t.f6), (2, ⟨(Lib.itoa t.f7).toArray⟩, t.f7), (2, ⟨(Lib.itoa t.f8).toArray⟩, t.f8), (2, ⟨(Lib.itoa t.f10).toArray⟩, t.f10)]
theorem RightT.low {t : TK} (h : RightT t) : (0 ≤ t.f4 ∧ t.f4 ≤ 1048576) ∧ (0 ≤ t.f5 ∧ t.f5 ≤ 1048576) := by
 have h1 := h.timed; have h2 := h.mode1; have h3 := h.mode2
 by_cases e : t.f9 = 1
 ·have := h2 e; omega
 ·have := h3 e; omega
theorem words_toks {t : TK} (h : RightT t) : (wordsT t).map tokOf = (wordT t).map some := by
 have h1 := h.timed; have h2 := h.low; have h3 := h.firm; have h4 := h.prio
 unfold wordsT wordT
 simp only [List.map_cons, List.map_nil]
 rw [tok_named h.named, tok_mode, tok_int (n := t.f1) (by omega) (by omega), tok_int (n := t.f2) (by omega) (by omega), tok_int (n := t.f3) (by omega) (by omega), tok_int (n := t.f4) (by omega) (by omega), tok_int (n := t.f5) (by omega) (by omega), tok_int (n := t.f6) (by omega) (by omega), tok_int (n := t.f7) (by omega) (by omega), tok_int (n := t.f8) (by omega) (by omega), tok_int (n := t.f10) (by omega) (by omega)]
 rfl
def wordB_ (b : Int) : List (Int × ByteArray × Int) := [(1, wBurst, 0), (2, ⟨(Lib.itoa b).toArray⟩, b)]
theorem words_toksB {b : Int} (h0 : 0 ≤ b) (h1 : b ≤ 1099511627776) : (wordsB b).map tokOf = (wordB_ b).map some := by
 unfold wordsB wordB_
 simp only [List.map_cons, List.map_nil]
 rw [tok_int h0 h1]
 rfl
theorem all_some {ws : List (List UInt8)} {l : List (Int × ByteArray × Int)} (h : ws.map tokOf = l.map some) : ∀ w ∈ ws, (tokOf w).isSome = true := by
 intro w hw
 have : tokOf w ∈ l.map some := by rw [← h]; exact List.mem_map_of_mem hw
 obtain ⟨x, _, hx⟩ := List.mem_map.1 this
 rw [← hx]; rfl
theorem map_some_inj {α : Type} : ∀ {a b : List α}, a.map some = b.map some → a = b
 | [], [], _ => rfl
 | [], _ :: _, h => by cases h
 | _ :: _, [], h => by cases h
 | x :: a, y :: b, h => by
  rw [List.map_cons, List.map_cons] at h
  obtain ⟨h1, h2⟩ := List.cons.inj h
  rw [Option.some.inj h1, map_some_inj h2]
theorem read_strip {ws : List (List UInt8)} {l : List (Int × ByteArray × Int)} (h : ws.map tokOf = l.map some) {ys : List TOK} (hR : ReadW ws ys) : ys.map stripT = l := by
 unfold ReadW at hR
 rw [h, show (ys.map fun y => some (stripT y)) = (ys.map stripT).map some by rw [List.map_map]; rfl] at hR
 exact (map_some_inj hR).symm
theorem strip_cons {x : Int × ByteArray × Int} {l : List (Int × ByteArray × Int)} {ys : List TOK} (h : ys.map stripT = x :: l) : ∃ y zs, ys = y :: zs ∧ y.f0 = x.1 ∧ y.f1 = x.2.1 ∧ y.f2 = x.2.2 ∧ zs.map stripT = l := by
 cases ys with
 | nil => cases h
 | cons y zs =>
  rw [List.map_cons] at h
  obtain ⟨h1, h2⟩ := List.cons.inj h
  subst h1
  exact ⟨y, zs, rfl, rfl, rfl, rfl, h2⟩
theorem fitN {y : TOK} (h : y.f0 = 2) : fitT (2, []) y = true := by unfold fitT; rw [h]; rfl
theorem fitW {y : TOK} (h : y.f0 = 1) : fitT (1, []) y = true := by unfold fitT; rw [h]; rfl
theorem fitX {y : TOK} {k : Int} {s : ByteArray} {tx : List ByteArray} (h : y.f0 = k) (h1 : y.f1 = s) (h2 : s ∈ tx) : fitT (k, tx) y = true := by
 unfold fitT
 rw [h, h1]
 have : (tx.any fun x => x.toList == s.toList) = true := List.any_eq_true.2 ⟨s, h2, beq_iff_eq.2 rfl⟩
 simp only [this, Bool.or_true, beq_self_eq_true, Bool.and_self]
theorem mode_back {m : Int} (h0 : 1 ≤ m) (h1 : m ≤ 3) : modeW m ∈ [wRetry, wBlock, wBackup] ∧ modeOf (modeW m) = m := by
 rcases (by omega : m = 1 ∨ m = 2 ∨ m = 3) with rfl | rfl | rfl
 ·exact ⟨by simp [modeW, wRetry], rfl⟩
 ·exact ⟨by simp [modeW, wBlock], rfl⟩
 ·exact ⟨by simp [modeW, wBackup], rfl⟩
theorem fin_line (p : PS) (he : p.e = 0) (l c : Int) (r : List TOK) (hl : p.l = ⟨3, (⟨#[]⟩ : ByteArray), 0, l, c⟩ :: r) : p.fin = { p with l := r } := by
 have hn : p.now = ⟨3, (⟨#[]⟩ : ByteArray), 0, l, c⟩ := by unfold PS.now; rw [hl]; rfl
 unfold PS.fin
 rw [if_neg (by rw [hn]; simp), take_yes he hl (by rfl)]
/-- The head of what is read isn't a line's end. -/
theorem ReadL.head {ts : List TK} {ys : List TOK} (h : ReadL ts ys) (hr : ∀ t ∈ ts, RightT t) : ∃ y r, ys = y :: r ∧ y.f0 ≠ 3 ∧ (ts = [] → y.f0 = 4) ∧ (ts ≠ [] → y.f0 = 1) := by
 cases h with
 | nil l c => exact ⟨_, _, rfl, (by show ¬ (4 : Int) = 3; decide), fun _ => rfl, fun e => absurd rfl e⟩
 | cons t ts ys rest l c hy h =>
  obtain ⟨y, zs, rfl, e0, -, -, -⟩ := strip_cons (read_strip (words_toks (hr t (by simp))) hy)
  have e : y.f0 = 1 := e0
  refine ⟨y, _, rfl, by omega, fun e2 => ?_, fun _ => e⟩
  cases e2
theorem blank_same (p : PS) {y : TOK} {r : List TOK} (hl : p.l = y :: r) (h : y.f0 ≠ 3) : p.blank = p := by
 unfold PS.blank
 rw [hl, List.dropWhile_cons, if_neg (by simpa using h), ← hl]
theorem go_read : ∀ (ts : List TK) (_ : ∀ t ∈ ts, RightT t) (ys : List TOK) (_ : ReadL ts ys) (n : Nat) (p : PS), ts.length ≤ n → p.e = 0 → p.l = ys →
  (PS.go n p).e = 0 ∧ (PS.go n p).b = p.b ∧ (PS.go n p).ts = p.ts ++ ts
 | [], _, ys, hR, n, p, hn, he, hl => by
  obtain ⟨y, r, rfl, -, h4, -⟩ := hR.head (by simp)
  have hnow : p.now = y := by unfold PS.now; rw [hl]; rfl
  rw [go_done n p (by rw [hnow, h4 rfl]; simp)]
  exact ⟨he, rfl, by simp⟩
 | t :: ts, hr, ys, hR, n, p, hn, he, hl => by
  obtain ⟨n, rfl⟩ : ∃ m, n = m + 1 := ⟨n - 1, by rw [List.length_cons] at hn; omega⟩
  cases hR with
  | cons _ _ ys rest l c hy h =>
   have hT := hr t (by simp)
   have hs := read_strip (words_toks hT) hy
   unfold wordT at hs
   obtain ⟨y0, z, rfl, a0, b0, c0, hs⟩ := strip_cons hs
   obtain ⟨y1, z, rfl, a1, b1, c1, hs⟩ := strip_cons hs
   obtain ⟨y2, z, rfl, a2, b2, c2, hs⟩ := strip_cons hs
   obtain ⟨y3, z, rfl, a3, b3, c3, hs⟩ := strip_cons hs
   obtain ⟨y4, z, rfl, a4, b4, c4, hs⟩ := strip_cons hs
   obtain ⟨y5, z, rfl, a5, b5, c5, hs⟩ := strip_cons hs
   obtain ⟨y6, z, rfl, a6, b6, c6, hs⟩ := strip_cons hs
   obtain ⟨y7, z, rfl, a7, b7, c7, hs⟩ := strip_cons hs
   obtain ⟨y8, z, rfl, a8, b8, c8, hs⟩ := strip_cons hs
   obtain ⟨y9, z, rfl, a9, b9, c9, hs⟩ := strip_cons hs
   obtain ⟨y10, z, rfl, a10, b10, c10, hs⟩ := strip_cons hs
   obtain ⟨y11, z, rfl, a11, b11, c11, hs⟩ := strip_cons hs
   have hz : z = [] := List.map_eq_nil_iff.1 hs
   subst hz
   simp only at a0 a1 a2 a3 a4 a5 a6 a7 a8 a9 a10 a11 b0 b1 b5 c2 c3 c4 c6 c7 c8 c9 c10 c11
   simp only [List.cons_append, List.nil_append] at hl
   have hmb := mode_back hT.modeA.1 hT.modeA.2
   have h1 := one_yes p he y0 y1 y2 y3 y4 y5 y6 y7 y8 y9 y10 y11 (⟨3, (⟨#[]⟩ : ByteArray), 0, l, c⟩ :: rest) hl (fitX a0 b0 (by simp)) (fitW a1) (fitN a2) (fitN a3) (fitN a4) (fitX a5 b5 hmb.1) (fitN a6) (fitN a7) (fitN a8) (fitN a9) (fitN a10) (fitN a11)
   have htk : taskOf p.l = t := by
    rw [hl]
    unfold taskOf
    simp only [List.getD_cons_succ, List.getD_cons_zero]
    rw [b1, c2, c3, c4, c6, c7, c8, c9, c10, c11, b5, hmb.2]
   rw [htk, fin_line { p with hs := p.hs ++ [y0], l := ⟨3, (⟨#[]⟩ : ByteArray), 0, l, c⟩ :: rest } he l c rest rfl] at h1
   have hnow : p.now = y0 := by unfold PS.now; rw [hl]; rfl
   obtain ⟨y, r, hy2, hn3, -, -⟩ := h.head (fun x hx => hr x (List.mem_cons_of_mem _ hx))
   have hb : p.one.blank = p.one := blank_same p.one (y := y) (r := r) (by rw [h1]; exact hy2) hn3
   rw [PS.go, if_pos ⟨he, by rw [hnow, a0]; decide⟩, hb]
   have ih := go_read ts (fun x hx => hr x (List.mem_cons_of_mem _ hx)) rest h n p.one (by rw [List.length_cons] at hn; omega) (by rw [h1]; exact he) (by rw [h1])
   refine ⟨ih.1, by rw [ih.2.1, h1], ?_⟩
   rw [ih.2.2, h1]
   simp
theorem ReadL.len {ts : List TK} {ys : List TOK} (h : ReadL ts ys) : ts.length ≤ ys.length := by
 induction h with
 | nil => simp
 | cons t ts ys rest l c hy h ih => simp only [List.length_append, List.length_cons]; omega
/-- A right set's text is read as the set. -/
theorem parse_text (b : Int) (ts : List TK) (h : (whyS b ts).1 = 0) : parseF (ns (textB b ts)) = (b, ts, 0, 0, 0) := by
 have hR := (rightS_iff b ts).1 h
 have hT : ∀ t ∈ ts, RightT t := fun t ht => hR.task ht
 have h0 := hR.b0; have h1 := hR.b1
 have hwb := words_toksB (b := b) (by omega) (by omega)
 obtain ⟨y0, l, c, ys, hR0, hRL, hL⟩ := toks_text b ts (all_some hwb) (fun t ht => all_some (words_toks (hT t ht)))
 have hs := read_strip hwb hR0
 unfold wordB_ at hs
 obtain ⟨x0, z, rfl, a0, b0, c0, hs⟩ := strip_cons hs
 obtain ⟨x1, z, rfl, a1, b1, c1, hs⟩ := strip_cons hs
 have hz : z = [] := List.map_eq_nil_iff.1 hs
 subst hz
 simp only at a0 a1 b0 c1
 unfold parseF
 rw [hL, if_pos rfl]
 simp only [List.cons_append, List.nil_append]
 obtain ⟨p, hp⟩ : ∃ p, PS.init (x0 :: x1 :: ⟨3, (⟨#[]⟩ : ByteArray), 0, l, c⟩ :: ys) = p := ⟨_, rfl⟩
 have pe : p.e = 0 := by rw [← hp]; rfl
 have pl : p.l = x0 :: x1 :: ⟨3, (⟨#[]⟩ : ByteArray), 0, l, c⟩ :: ys := by rw [← hp]; rfl
 have pt : p.ts = [] := by rw [← hp]; rfl
 have e1 : p.blank = p := blank_same p pl (by rw [a0]; decide)
 have e2 := first_yes p pe x0 x1 _ pl (fitX a0 b0 (by simp)) (fitN a1)
 rw [fin_line { p with l := ⟨3, (⟨#[]⟩ : ByteArray), 0, l, c⟩ :: ys, b := x1.f2, bt := x1 } pe l c ys rfl] at e2
 obtain ⟨y, r, hy, hn3, -, -⟩ := hRL.head hT
 have e3 : p.first.blank = p.first := blank_same p.first (y := y) (r := r) (by rw [e2]; exact hy) hn3
 have hg := go_read ts hT ys hRL (x0 :: x1 :: ⟨3, (⟨#[]⟩ : ByteArray), 0, l, c⟩ :: ys).length p.first (by have := hRL.len; simp only [List.length_cons]; omega) (by rw [e2]; exact pe) (by rw [e2])
 unfold parseToks
 simp only
 rw [hp, e1, e3]
 obtain ⟨F, hF⟩ : ∃ F, PS.go (x0 :: x1 :: ⟨3, (⟨#[]⟩ : ByteArray), 0, l, c⟩ :: ys).length p.first = F := ⟨_, rfl⟩
 rw [hF] at hg ⊢
 obtain ⟨g1, g2, g3⟩ := hg
 have fb : F.b = b := by rw [g2, e2]; exact c1
 have ft : F.ts = ts := by rw [g3, e2]; show p.ts ++ ts = ts; rw [pt]; rfl
 have hw : F.wrong = (0, 0, 0) := by
  unfold PS.wrong
  rw [fb, ft]
  simp only [h, if_pos]
 rw [if_pos g1, hw, if_pos rfl, fb, ft]
/-- A text that is read is a right set. -/
theorem parse_right7 (l : List Int) (h : (parseF l).2.2.1 = 0) : (whyS (parseF l).1 (parseF l).2.1).1 = 0 := by
 unfold parseF at h ⊢
 by_cases h0 : (lexToks l).2.1 = 0
 ·rw [if_pos h0] at h ⊢
  unfold parseToks at h ⊢
  simp only at h ⊢
  obtain ⟨F, hF⟩ : ∃ F, PS.go (lexToks l).1.length (PS.init (lexToks l).1).blank.first.blank = F := ⟨_, rfl⟩
  rw [hF] at h ⊢
  by_cases he : F.e = 0
  ·simp only [if_pos he] at h ⊢
   by_cases hw : F.wrong.1 = 0
   ·rw [if_pos hw]
    show (whyS F.b F.ts).1 = 0
    rcases Decidable.em ((whyS F.b F.ts).1 = 0) with h1 | h1
    ·exact h1
    ·refine absurd hw ?_
     unfold PS.wrong
     simp only [if_neg h1]
     decide
   ·rw [if_neg hw] at h; exact absurd h hw
  ·simp only [if_neg he] at h
   exact absurd h he
 ·rw [if_neg h0] at h
  exact absurd h h0
theorem line_small {t : TK} (h : RightT t) : (lineB t).length ≤ 250 := by
 have hi : intT t := by
  have h1 := h.timed; have h2 := h.low; have h3 := h.firm; have h4 := h.prio; have h5 := h.modeA
  intro n hn
  simp only [List.mem_cons, List.not_mem_nil, or_false] at hn
  rcases hn with rfl | rfl | rfl | rfl | rfl | rfl | rfl | rfl | rfl | rfl <;> omega
 have h1 := numsB_len [t.f1, t.f2, t.f3] (fun n hn => hi n (by simp only [List.mem_cons, List.not_mem_nil, or_false] at hn ⊢; rcases hn with rfl | rfl | rfl <;> simp))
 have h2 := numsB_len [t.f4, t.f5, t.f6, t.f7, t.f8, t.f10] (fun n hn => hi n (by simp only [List.mem_cons, List.not_mem_nil, or_false] at hn ⊢; rcases hn with rfl | rfl | rfl | rfl | rfl | rfl <;> simp))
 have h3 : (modeW t.f9).data.toList.length ≤ 6 := modeW_len t.f9
 have h4 : wTaskB.data.toList.length = 5 := rfl
 have h5 : t.f0.data.toList.length ≤ 12 := by
  have := h.named
  unfold named at this
  simp only [Bool.and_eq_true, decide_eq_true_eq] at this
  exact this.1.1.2
 simp only [List.length_cons, List.length_nil] at h1 h2
 unfold lineB
 simp only [List.length_append, List.length_cons]
 omega
theorem right_intT {t : TK} (h : RightT t) : intT t := by
 have h1 := h.timed; have h2 := h.low; have h3 := h.firm; have h4 := h.prio; have h5 := h.modeA
 intro n hn
 simp only [List.mem_cons, List.not_mem_nil, or_false] at hn
 rcases hn with rfl | rfl | rfl | rfl | rfl | rfl | rfl | rfl | rfl | rfl <;> omega
theorem lines_small : ∀ (ts : List TK), (∀ t ∈ ts, RightT t) → (linesB ts).length ≤ 251 * ts.length
 | [], _ => by simp [linesB]
 | t :: ts, h => by
  have h1 := line_small (h t (by simp))
  have h2 := lines_small ts (fun x hx => h x (List.mem_cons_of_mem _ hx))
  have e : linesB (t :: ts) = lineB t ++ 10 :: linesB ts := by simp [linesB]
  rw [e, List.length_append, List.length_cons, List.length_cons]
  omega
theorem text_small (b : Int) (ts : List TK) (h : (whyS b ts).1 = 0) : (textB b ts).length ≤ 10000 := by
 have hR := (rightS_iff b ts).1 h
 have h0 := hR.b0; have h1 := hR.b1; have hn := hR.n1
 have h2 := lines_small ts (fun t ht => hR.task ht)
 have h3 := numsB_len [b] (fun n hn => by have e : n = b := (by simpa using hn); omega)
 have h4 : wBurstB.data.toList.length = 5 := rfl
 simp only [List.length_cons, List.length_nil] at h3
 unfold textB
 simp only [List.length_append, List.length_cons, List.length_nil, h4]
 omega
theorem right_bounds (b : Int) (ts : List TK) (h : (whyS b ts).1 = 0) : intI b ∧ (∀ t ∈ ts, intT t ∧ t.f0.size ≤ 1000000) ∧ ts.length ≤ 50 := by
 have hR := (rightS_iff b ts).1 h
 have h0 := hR.b0; have h1 := hR.b1; have hn := hR.n1
 refine ⟨⟨by omega, by omega⟩, fun t ht => ⟨right_intT (hR.task ht), ?_⟩, by omega⟩
 have := (hR.task ht).named
 unfold named at this
 simp only [Bool.and_eq_true, decide_eq_true_eq] at this
 have := this.1.1.2
 omega
/-- What a right set's text is: printed, told by the reference, read. -/
theorem text_all (b : Int) (ts : List TK) (h : (whyS b ts).1 = 0) : ∃ x : ByteArray, print_Set.f b ts = some (x, 0) ∧ pendulumref07_Set.f 300 b ts = some x ∧ parse_Set.f (bytesOf x) = some (b, ts, 0, 0, 0) ∧ x.size ≤ 10000 ∧ ts.length ≤ 16 := by
 obtain ⟨h1, h2, h3⟩ := right_bounds b ts h
 have hz := text_small b ts h
 refine ⟨⟨(textB b ts).toArray⟩, print_set_right b ts h1 h2 h3 h, set_ref b ts h1 h2 h3 300 (by decide), ?_, by rw [ba_size]; exact hz, ((rightS_iff b ts).1 h).n1⟩
 unfold parse_Set.f
 rw [if_pos ⟨by rw [bytes_ns]; exact ns_ok _, by rw [bytes_ns, ns_len]; omega⟩, bytes_ns, parse_text b ts h]
/-- Two sets with one text are one set. -/
theorem text_inj (b : Int) (ts : List TK) (c : Int) (us : List TK) (x : ByteArray) (h1 : parse_Set.f (bytesOf x) = some (b, ts, 0, 0, 0)) (h2 : parse_Set.f (bytesOf x) = some (c, us, 0, 0, 0)) : b = c ∧ ts = us := by
 rw [h1] at h2
 have := Option.some.inj h2
 simp only [Prod.mk.injEq, and_true] at this
 exact this
end Go.Proofs.YtadfcdpalcgghaaDoor.Q
