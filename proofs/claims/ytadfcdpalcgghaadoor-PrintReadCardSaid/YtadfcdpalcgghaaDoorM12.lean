-- Texts of this claim, put together: LprtP, LprtW.
import Derived.Test.YtadfcdpalcgghaaDoorM0
import Derived.Test.YtadfcdpalcgghaaDoorQ12
import Derived.Test.YtadfcdpalcgghaaDoorQ15
import Derived.Test.YtadfcdpalcgghaaDoorHprtC
-- The reference of chapter 7 prints as print does (no program in sight).
namespace Go.Proofs.YtadfcdpalcgghaaDoor.Q
open Go.RowKit Go.Proofs.YtadfcdpalcgghaaDoorW.PrintWords Go.Proofs.YtadfcdpalcgghaaDoorW.PrintLast Go.Proofs.YtadfcdpalcgghaaDoorW.PrintMore
attribute [local go_sem] max2_int min2_int max_two min_two max_three min_three max_four min_four   -- for this text's walks alone
set_option linter.unusedVariables false
set_option linter.unusedSimpArgs false

theorem ba_app (a b : List UInt8) : (⟨a.toArray⟩ : ByteArray) ++ ⟨b.toArray⟩ = ⟨(a ++ b).toArray⟩ := by
 have : ((⟨a.toArray⟩ : ByteArray) ++ ⟨b.toArray⟩).data = (a ++ b).toArray := by rw [ByteArray.data_append]; simp
 exact congrArg ByteArray.mk this
theorem ba_size (a : List UInt8) : (⟨a.toArray⟩ : ByteArray).size = a.length := by simp [ByteArray.size]
theorem digits_small (k u : Nat) (h : u < 10) : pendulumref07_digits.f (k + 1) (u : Int) = some ⟨(Lib.decDigits u).toArray⟩ := by
 rw [pendulumref07_digits.f, if_pos (by omega), Lib.decDigits_one h]
 rcases (by omega : u = 0 ∨ u = 1 ∨ u = 2 ∨ u = 3 ∨ u = 4 ∨ u = 5 ∨ u = 6 ∨ u = 7 ∨ u = 8 ∨ u = 9) with rfl | rfl | rfl | rfl | rfl | rfl | rfl | rfl | rfl | rfl <;> rfl
theorem digits_eq : ∀ (k u : Nat), u < 10 ^ (k + 1) → u < 18446744073709551616 → pendulumref07_digits.f (k + 1) (u : Int) = some ⟨(Lib.decDigits u).toArray⟩
 | 0, u, h, hu => digits_small 0 u (by simpa using h)
 | k + 1, u, h, hu => by
  by_cases h10 : u < 10
  ·exact digits_small _ _ h10
  ·have e0 : Int.tdiv (u : Int) 10 = ((u / 10 : Nat) : Int) := IntWalk.up_tdiv (y := 10) rfl rfl
   have e1 : IntKind.u64.wrap (Int.tdiv (u : Int) 10) = ((u / 10 : Nat) : Int) := by
    rw [e0]
    exact IntWalk.u64_in _ (by omega)
   have e2 : Int.tmod (u : Int) 10 = ((u % 10 : Nat) : Int) := IntWalk.up_tmod (y := 10) rfl rfl
   have hp : u / 10 < 10 ^ (k + 1) := by
    rw [Nat.pow_succ] at h
    omega
   have h20 := Lib.nDigits_le20 (u / 10) (by omega)
   rw [pendulumref07_digits.f, if_neg (by omega), e1, e2, digits_eq k (u / 10) hp (by omega), digits_small k (u % 10) (by omega), Option.bind_some, Option.bind_some]
   have z1 : (⟨(Lib.decDigits (u / 10)).toArray⟩ : ByteArray).size ≤ 20 := by rw [ba_size, Lib.decDigits_length]; exact h20
   have z2 : (⟨(Lib.decDigits (u % 10)).toArray⟩ : ByteArray).size = 1 := by rw [ba_size, Lib.decDigits_one (by omega)]; rfl
   rw [if_pos (by omega), ba_app]
   congr 2
   rw [Lib.decDigits_one (show u % 10 < 10 by omega)]
   conv => rhs; rw [Lib.decDigits, dif_neg h10]
def intI (n : Int) : Prop := -9223372036854775808 ≤ n ∧ n ≤ 9223372036854775807
theorem number_eq (k : Nat) (n : Int) (hn : intI n) (hk : 21 ≤ k) : pendulumref07_Number.f k n = some ⟨(Lib.itoa n).toArray⟩ := by
 obtain ⟨h0, h1⟩ := hn
 obtain ⟨k, rfl⟩ : ∃ j, k = j + 1 := ⟨k - 1, by omega⟩
 have hp : (18446744073709551616 : Nat) ≤ 10 ^ (k + 1) := Nat.le_trans (by decide) (Nat.pow_le_pow_right (by decide) (show 20 ≤ k + 1 by omega))
 unfold pendulumref07_Number.f Lib.itoa
 by_cases hn : n < 0
 ·rw [if_pos hn, if_pos hn, IntWalk.wrap64_in (n + 1) (by omega), IntWalk.wrap64_in _ (by omega), IntWalk.u64_in (-(n + 1)) (by omega), IntWalk.u64_in _ (by omega), show -(n + 1) + 1 = ((n.natAbs : Nat) : Int) by omega, digits_eq k n.natAbs (by omega) (by omega), Option.bind_some]
  have h20 := Lib.nDigits_le20 n.natAbs (by omega)
  have z1 : (⟨(Lib.decDigits n.natAbs).toArray⟩ : ByteArray).size ≤ 20 := by rw [ba_size, Lib.decDigits_length]; exact h20
  rw [if_pos (by omega), show (⟨#[45]⟩ : ByteArray) = ⟨([45] : List UInt8).toArray⟩ from rfl, ba_app]
  rfl
 ·have e : n = ((n.toNat : Nat) : Int) := by omega
  have d := digits_eq k n.toNat (by omega) (by omega)
  rw [← e] at d
  rw [if_neg hn, if_neg hn, IntWalk.u64_in n (by omega), d, Option.bind_some]
theorem mode_ref (m : Int) : pendulumref07_Mode.f m = some (modeW m) := by
 unfold pendulumref07_Mode.f
 rw [Option.bind_some]
 by_cases h0 : m < 0
 ·rw [if_pos h0]
  unfold modeW
  rw [if_neg (by omega), if_neg (by omega), if_neg (by omega)]
 ·rw [if_neg h0]
  by_cases h3 : m > 3
  ·rw [if_pos h3]
   unfold modeW
   rw [if_neg (by omega), if_neg (by omega), if_neg (by omega)]
  ·rw [if_neg h3, if_pos (by omega)]
   rcases (by omega : m = 0 ∨ m = 1 ∨ m = 2 ∨ m = 3) with rfl | rfl | rfl | rfl <;> rfl
theorem itoa_z (n : Int) (h : intI n) : (⟨(Lib.itoa n).toArray⟩ : ByteArray).size ≤ 21 := by rw [ba_size]; exact Lib.itoa_length_le n h.1 h.2
theorem two_if {α : Type} {a b : Nat} {x : Option α} (ha : a ≤ 9223372036854775807) (hb : b ≤ 9223372036854775807) : (if a ≤ 9223372036854775807 then (if b ≤ 9223372036854775807 then x else none) else none) = x := by rw [if_pos ha, if_pos hb]
theorem lit5 : (⟨#[116, 97, 115, 107, 32]⟩ : ByteArray).size = 5 := rfl
theorem lit1 : (⟨#[32]⟩ : ByteArray).size = 1 := rfl
theorem lit6 : (⟨#[98, 117, 114, 115, 116, 32]⟩ : ByteArray).size = 6 := rfl
set_option maxHeartbeats 4000000 in
theorem task_ref (t : TK) (hi : intT t) (hs : t.f0.size ≤ 1000000) (k : Nat) (hk : 21 ≤ k) :
  pendulumref07_Task.f k t.f0 t.f1 t.f2 t.f3 t.f4 t.f5 t.f6 t.f7 t.f8 t.f9 t.f10 = some ⟨(lineB t).toArray⟩ := by
 have i1 : intI t.f1 := hi t.f1 (by simp)
 obtain ⟨s1, e1⟩ : ∃ s : ByteArray, s = ⟨(Lib.itoa t.f1).toArray⟩ := ⟨_, rfl⟩
 have q1 := number_eq k t.f1 i1 hk
 have z1 := itoa_z t.f1 i1
 rw [← e1] at q1 z1
 have i2 : intI t.f2 := hi t.f2 (by simp)
 obtain ⟨s2, e2⟩ : ∃ s : ByteArray, s = ⟨(Lib.itoa t.f2).toArray⟩ := ⟨_, rfl⟩
 have q2 := number_eq k t.f2 i2 hk
 have z2 := itoa_z t.f2 i2
 rw [← e2] at q2 z2
 have i3 : intI t.f3 := hi t.f3 (by simp)
 obtain ⟨s3, e3⟩ : ∃ s : ByteArray, s = ⟨(Lib.itoa t.f3).toArray⟩ := ⟨_, rfl⟩
 have q3 := number_eq k t.f3 i3 hk
 have z3 := itoa_z t.f3 i3
 rw [← e3] at q3 z3
 have i4 : intI t.f4 := hi t.f4 (by simp)
 obtain ⟨s4, e4⟩ : ∃ s : ByteArray, s = ⟨(Lib.itoa t.f4).toArray⟩ := ⟨_, rfl⟩
 have q4 := number_eq k t.f4 i4 hk
 have z4 := itoa_z t.f4 i4
 rw [← e4] at q4 z4
 have i5 : intI t.f5 := hi t.f5 (by simp)
 obtain ⟨s5, e5⟩ : ∃ s : ByteArray, s = ⟨(Lib.itoa t.f5).toArray⟩ := ⟨_, rfl⟩
 have q5 := number_eq k t.f5 i5 hk
 have z5 := itoa_z t.f5 i5
 rw [← e5] at q5 z5
 have i6 : intI t.f6 := hi t.f6 (by simp)
 obtain ⟨s6, e6⟩ : ∃ s : ByteArray, s = ⟨(Lib.itoa t.f6).toArray⟩ := ⟨_, rfl⟩
 have q6 := number_eq k t.f6 i6 hk
 have z6 := itoa_z t.f6 i6
 rw [← e6] at q6 z6
 have i7 : intI t.f7 := hi t.f7 (by simp)
 obtain ⟨s7, e7⟩ : ∃ s : ByteArray, s = ⟨(Lib.itoa t.f7).toArray⟩ := ⟨_, rfl⟩
 have q7 := number_eq k t.f7 i7 hk
 have z7 := itoa_z t.f7 i7
 rw [← e7] at q7 z7
 have i8 : intI t.f8 := hi t.f8 (by simp)
 obtain ⟨s8, e8⟩ : ∃ s : ByteArray, s = ⟨(Lib.itoa t.f8).toArray⟩ := ⟨_, rfl⟩
 have q8 := number_eq k t.f8 i8 hk
 have z8 := itoa_z t.f8 i8
 rw [← e8] at q8 z8
 have i10 : intI t.f10 := hi t.f10 (by simp)
 obtain ⟨s10, e10⟩ : ∃ s : ByteArray, s = ⟨(Lib.itoa t.f10).toArray⟩ := ⟨_, rfl⟩
 have q10 := number_eq k t.f10 i10 hk
 have z10 := itoa_z t.f10 i10
 rw [← e10] at q10 z10
 obtain ⟨s9, e9⟩ : ∃ s : ByteArray, s = modeW t.f9 := ⟨_, rfl⟩
 have q9 := mode_ref t.f9
 have z9 := modeW_len t.f9
 rw [← e9] at q9 z9
 unfold pendulumref07_Task.f
 rw [two_if (by omega) (by simp only [ByteArray.size_append, lit5]; omega)]
 rw [q1, Option.bind_some]
 rw [two_if (by simp only [ByteArray.size_append, lit5, lit1]; omega) (by simp only [ByteArray.size_append, lit5, lit1]; omega)]
 rw [q2, Option.bind_some]
 rw [two_if (by simp only [ByteArray.size_append, lit5, lit1]; omega) (by simp only [ByteArray.size_append, lit5, lit1]; omega)]
 rw [q3, Option.bind_some]
 rw [two_if (by simp only [ByteArray.size_append, lit5, lit1]; omega) (by simp only [ByteArray.size_append, lit5, lit1]; omega)]
 rw [q9, Option.bind_some]
 rw [two_if (by simp only [ByteArray.size_append, lit5, lit1]; omega) (by simp only [ByteArray.size_append, lit5, lit1]; omega)]
 rw [q4, Option.bind_some]
 rw [two_if (by simp only [ByteArray.size_append, lit5, lit1]; omega) (by simp only [ByteArray.size_append, lit5, lit1]; omega)]
 rw [q5, Option.bind_some]
 rw [two_if (by simp only [ByteArray.size_append, lit5, lit1]; omega) (by simp only [ByteArray.size_append, lit5, lit1]; omega)]
 rw [q6, Option.bind_some]
 rw [two_if (by simp only [ByteArray.size_append, lit5, lit1]; omega) (by simp only [ByteArray.size_append, lit5, lit1]; omega)]
 rw [q7, Option.bind_some]
 rw [two_if (by simp only [ByteArray.size_append, lit5, lit1]; omega) (by simp only [ByteArray.size_append, lit5, lit1]; omega)]
 rw [q8, Option.bind_some]
 rw [two_if (by simp only [ByteArray.size_append, lit5, lit1]; omega) (by simp only [ByteArray.size_append, lit5, lit1]; omega)]
 rw [q10, Option.bind_some]
 rw [if_pos (by simp only [ByteArray.size_append, lit5, lit1]; omega)]
 refine congrArg some (WideShapes.bytes_inj ?_)
 simp only [ByteArray.data_append, Array.toList_append]
 rw [e1, e2, e3, e4, e5, e6, e7, e8, e9, e10]
 simp only [lineB, numsB, wTaskB, List.append_assoc, List.cons_append, List.nil_append, List.append_nil]
theorem set_loop (b : Int) (ts : List TK) (hts : ∀ t ∈ ts, intT t ∧ t.f0.size ≤ 1000000) (hl : ts.length ≤ 50) : ∀ (n i k : Nat) (acc : List UInt8), i + n = ts.length → n + 22 ≤ k → acc.length + 1001001 * n ≤ 100000000 →
  pendulumref07_Set.l0 k ⟨acc.toArray⟩ (i : Int) b ts = some ⟨(acc ++ linesB (ts.drop i)).toArray⟩
 | 0, i, k, acc, h, hk, hz => by
  obtain ⟨k, rfl⟩ : ∃ j, k = j + 1 := ⟨k - 1, by omega⟩
  rw [pendulumref07_Set.l0, if_neg (by omega), List.drop_of_length_le (by omega)]
  simp [linesB]
 | n + 1, i, k, acc, h, hk, hz => by
  obtain ⟨k, rfl⟩ : ∃ j, k = j + 1 := ⟨k - 1, by omega⟩
  have hlt : i < ts.length := by omega
  have hg : rd_T26 ts (i : Int) = ts[i] := by simp [rd_T26, List.getD_eq_getElem?_getD, List.getElem?_eq_getElem hlt]
  have ht := hts ts[i] (List.getElem_mem hlt)
  have z := lineB_len ht.1 ht.2
  have ez : (⟨(lineB ts[i]).toArray⟩ : ByteArray).size ≤ 1001000 := by rw [ba_size]; exact z
  have ea : (⟨acc.toArray⟩ : ByteArray).size = acc.length := ba_size acc
  rw [pendulumref07_Set.l0, if_pos (by omega), if_pos (by omega), hg, task_ref ts[i] ht.1 ht.2 k (by omega), Option.bind_some]
  rw [two_if (by omega) (by rw [ByteArray.size_append]; omega), ba_app acc (lineB ts[i]), show (⟨#[10]⟩ : ByteArray) = ⟨([10] : List UInt8).toArray⟩ from rfl, ba_app (acc ++ lineB ts[i]) [10], IntWalk.wrap64_in _ (by omega), show ((i : Int) + 1) = ((i + 1 : Nat) : Int) by omega,
   set_loop b ts hts hl n (i + 1) k _ (by omega) (by omega) (by simp only [List.length_append, List.length_cons, List.length_nil]; omega), List.drop_eq_getElem_cons hlt]
  simp only [linesB, List.flatMap_cons, List.append_assoc, List.cons_append, List.nil_append]
theorem set_ref (b : Int) (ts : List TK) (hb : intI b) (hts : ∀ t ∈ ts, intT t ∧ t.f0.size ≤ 1000000) (hl : ts.length ≤ 50) (k : Nat) (hk : 200 ≤ k) : pendulumref07_Set.f k b ts = some ⟨(textB b ts).toArray⟩ := by
 have z := itoa_z b hb
 unfold pendulumref07_Set.f
 rw [number_eq k b hb (by omega), Option.bind_some, two_if (by omega) (by rw [ByteArray.size_append, lit6]; omega), show (⟨#[98, 117, 114, 115, 116, 32]⟩ : ByteArray) = ⟨([98, 117, 114, 115, 116, 32] : List UInt8).toArray⟩ from rfl, show (⟨#[10]⟩ : ByteArray) = ⟨([10] : List UInt8).toArray⟩ from rfl, ba_app [98, 117, 114, 115, 116, 32] (Lib.itoa b), ba_app ([98, 117, 114, 115, 116, 32] ++ Lib.itoa b) [10]]
 have h := set_loop b ts hts hl ts.length 0 k ([98, 117, 114, 115, 116, 32] ++ Lib.itoa b ++ [10]) (by omega) (by omega) (by rw [ba_size] at z; simp only [List.length_append, List.length_cons, List.length_nil]; omega)
 rw [List.drop_zero] at h
 have h2 : (([98, 117, 114, 115, 116, 32] ++ Lib.itoa b ++ [10]) ++ linesB ts) = textB b ts := by simp [textB, numsB, wBurstB]
 rw [h2] at h
 exact h
end Go.Proofs.YtadfcdpalcgghaaDoor.Q

-- A printed set, as lines of words: its blanks, its lines' ends (no program in sight).
namespace Go.Proofs.YtadfcdpalcgghaaDoor.Q
open Go.RowKit Go.Proofs.YtadfcdpalcgghaaDoorW.PrintWords Go.Proofs.YtadfcdpalcgghaaDoorW.PrintLast Go.Proofs.YtadfcdpalcgghaaDoorW.PrintMore
attribute [local go_sem] max2_int min2_int max_two min_two max_three min_three max_four min_four   -- for this text's walks alone
set_option linter.unusedVariables false
set_option linter.unusedSimpArgs false

/-- Words, a blank between each two, a line's end behind; then the rest. -/
def lineW : List (List UInt8) → List UInt8 → List UInt8
 | [], r => 10 :: r
 | [w], r => w ++ 10 :: r
 | w :: v :: ws, r => w ++ 32 :: lineW (v :: ws) r
def wordsT (t : TK) : List (List UInt8) := [[116, 97, 115, 107], t.f0.data.toList, Lib.itoa t.f1, Lib.itoa t.f2, Lib.itoa t.f3, (modeW t.f9).data.toList, Lib.itoa t.f4, Lib.itoa t.f5, Lib.itoa t.f6, Lib.itoa t.f7, Lib.itoa t.f8, Lib.itoa t.f10]
def wordsB (b : Int) : List (List UInt8) := [[98, 117, 114, 115, 116], Lib.itoa b]
theorem line_words (t : TK) (r : List UInt8) : lineB t ++ 10 :: r = lineW (wordsT t) r := by
 simp [lineB, numsB, wTaskB, wordsT, lineW]
theorem lines_words (t : TK) (ts : List TK) : linesB (t :: ts) = lineW (wordsT t) (linesB ts) := by
 rw [← line_words]
 simp [linesB]
theorem text_words (b : Int) (ts : List TK) : textB b ts = lineW (wordsB b) (linesB ts) := by
 simp [textB, numsB, wBurstB, wordsB, lineW]
/-- No blank behind a blank or a line's end. -/
def okSp : UInt8 → List UInt8 → Bool
 | _, [] => true
 | p, c :: l => !(c == 32 && (p == 32 || p == 10)) && okSp c l
theorem okSp_at : ∀ (l : List UInt8) (p : UInt8) (_ : okSp p l = true) (i : Nat) (h : i + 1 < l.length), l[i + 1] = 32 → l[i] ≠ 32 ∧ l[i] ≠ 10
 | [], _, _, i, h => by simp at h
 | [c], _, _, i, h => by simp at h
 | c :: d :: l, p, ho, 0, h => by
  intro e
  simp only [okSp, Bool.and_eq_true] at ho
  have h2 := ho.2.1
  simp at e
  subst e
  simpa using h2
 | c :: d :: l, p, ho, i + 1, h => by
  intro e
  rw [okSp, Bool.and_eq_true] at ho
  have := okSp_at (d :: l) c ho.2 i (by simpa using h) (by simpa using e)
  simpa using this
/-- A word: no blank, no line's end in it. -/
def pw (w : List UInt8) : Prop := w ≠ [] ∧ ∀ c ∈ w, c ≠ 32 ∧ c ≠ 10
theorem okSp_word : ∀ (w : List UInt8) (p : UInt8) (r : List UInt8), pw w → okSp p (w ++ 32 :: r) = okSp 32 r ∧ okSp p (w ++ 10 :: r) = okSp 10 r
 | [], _, _, h => absurd rfl h.1
 | [c], p, r, h => by
  have hc := h.2 c (by simp)
  have b1 : (c == 32) = false := beq_eq_false_iff_ne.2 hc.1
  have b2 : (c == 10) = false := beq_eq_false_iff_ne.2 hc.2
  simp [okSp, b1, b2]
 | c :: d :: w, p, r, h => by
  have hc := h.2 c (by simp)
  have hi := okSp_word (d :: w) c r ⟨by simp, fun x hx => h.2 x (List.mem_cons_of_mem _ hx)⟩
  have b1 : (c == 32) = false := beq_eq_false_iff_ne.2 hc.1
  constructor
  ·show (!(c == 32 && (p == 32 || p == 10)) && okSp c (d :: w ++ 32 :: r)) = _
   rw [hi.1, b1]; rfl
  ·show (!(c == 32 && (p == 32 || p == 10)) && okSp c (d :: w ++ 10 :: r)) = _
   rw [hi.2, b1]; rfl
theorem okSp_line : ∀ (ws : List (List UInt8)) (p : UInt8) (r : List UInt8), ws ≠ [] → (∀ w ∈ ws, pw w) → okSp p (lineW ws r) = okSp 10 r
 | [], _, _, h, _ => absurd rfl h
 | [w], p, r, _, hw => (okSp_word w p r (hw w (by simp))).2
 | w :: v :: ws, p, r, _, hw => by
  rw [lineW, (okSp_word w p _ (hw w (by simp))).1]
  exact okSp_line (v :: ws) 32 r (by simp) (fun x hx => hw x (List.mem_cons_of_mem _ hx))
def ends (l : List UInt8) : Nat := l.countP (fun c => c == 10)
theorem ends_word (w : List UInt8) (r : List UInt8) (h : pw w) : ends (w ++ r) = ends r := by
 unfold ends
 rw [List.countP_append]
 have : List.countP (fun c => c == 10) w = 0 := List.countP_eq_zero.2 (fun c hc => by simpa using (h.2 c hc).2)
 omega
theorem ends_line : ∀ (ws : List (List UInt8)) (r : List UInt8), (∀ w ∈ ws, pw w) → ends (lineW ws r) = ends r + 1
 | [], r, _ => by rw [lineW]; unfold ends; rw [List.countP_cons]; rfl
 | [w], r, hw => by
  rw [lineW, ends_word w _ (hw w (by simp))]
  unfold ends; rw [List.countP_cons]; rfl
 | w :: v :: ws, r, hw => by
  rw [lineW, ends_word w _ (hw w (by simp))]
  have h := ends_line (v :: ws) r (fun x hx => hw x (List.mem_cons_of_mem _ hx))
  unfold ends at h ⊢
  rw [List.countP_cons, h]
  rfl
theorem dec_digits (u : Nat) : Lib.decDigits u ≠ [] ∧ ∀ c ∈ Lib.decDigits u, 48 ≤ c.toNat ∧ c.toNat ≤ 57 := by
 induction u using Nat.strongRecOn with
 | _ u ih =>
  have key : ∀ v : Nat, v < 10 → 48 ≤ (UInt8.ofNat (48 + v)).toNat ∧ (UInt8.ofNat (48 + v)).toNat ≤ 57 := fun v hv => by
   rcases (by omega : v = 0 ∨ v = 1 ∨ v = 2 ∨ v = 3 ∨ v = 4 ∨ v = 5 ∨ v = 6 ∨ v = 7 ∨ v = 8 ∨ v = 9) with rfl | rfl | rfl | rfl | rfl | rfl | rfl | rfl | rfl | rfl <;> decide
  by_cases h : u < 10
  ·rw [Lib.decDigits_one h]
   refine ⟨by simp, fun c hc => ?_⟩
   simp only [List.mem_singleton] at hc
   subst hc
   exact key u h
  ·rw [Lib.decDigits, dif_neg h]
   refine ⟨by simp, fun c hc => ?_⟩
   rcases List.mem_append.1 hc with hc | hc
   ·exact (ih (u / 10) (by omega)).2 c hc
   ·simp only [List.mem_singleton] at hc
    subst hc
    exact key (u % 10) (by omega)
theorem ne_of_toNat {a b : UInt8} (h : a.toNat ≠ b.toNat) : a ≠ b := fun e => h (by rw [e])
theorem pw_itoa (n : Int) : pw (Lib.itoa n) := by
 have key : ∀ c : UInt8, 48 ≤ c.toNat ∧ c.toNat ≤ 57 → c ≠ 32 ∧ c ≠ 10 := fun c hc =>
  ⟨ne_of_toNat (by show c.toNat ≠ 32; omega), ne_of_toNat (by show c.toNat ≠ 10; omega)⟩
 unfold Lib.itoa
 split
 ·refine ⟨by simp, fun c hc => ?_⟩
  rcases List.mem_cons.1 hc with rfl | hc
  ·decide
  ·exact key c ((dec_digits _).2 c hc)
 ·exact ⟨(dec_digits _).1, fun c hc => key c ((dec_digits _).2 c hc)⟩
theorem pw_mode (m : Int) : pw (modeW m).data.toList := by
 unfold modeW
 split
 ·exact ⟨by decide, by decide⟩
 ·split
  ·exact ⟨by decide, by decide⟩
  ·split
   ·exact ⟨by decide, by decide⟩
   ·exact ⟨by decide, by decide⟩
theorem named_all {s : ByteArray} (h : named s = true) : s.data.toList ≠ [] ∧ (∀ c ∈ s.data.toList, nOthers.contains c = true) ∧ (∀ c r, s.data.toList = c :: r → nLetters.contains c = true) := by
 unfold named at h
 simp only [Bool.and_eq_true, decide_eq_true_eq] at h
 obtain ⟨⟨⟨h1, h2⟩, h3⟩, h4⟩ := h
 refine ⟨fun e => ?_, fun c hc => List.all_eq_true.1 h4 c hc, fun c r e => ?_⟩
 ·have : s.size = s.data.toList.length := rfl
  rw [e, List.length_nil] at this
  omega
 ·rw [e] at h3
  simpa using h3
theorem pw_named {s : ByteArray} (h : named s = true) : pw s.data.toList := by
 obtain ⟨h1, h2, -⟩ := named_all h
 refine ⟨h1, fun c hc => ?_⟩
 have h3 := h2 c hc
 constructor
 ·rintro rfl; exact absurd h3 (by decide)
 ·rintro rfl; exact absurd h3 (by decide)
theorem pw_task {t : TK} (h : named t.f0 = true) : ∀ w ∈ wordsT t, pw w := by
 intro w hw
 simp only [wordsT, List.mem_cons, List.not_mem_nil, or_false] at hw
 rcases hw with rfl | rfl | rfl | rfl | rfl | rfl | rfl | rfl | rfl | rfl | rfl | rfl
 ·exact ⟨by decide, by decide⟩
 ·exact pw_named h
 ·exact pw_itoa _
 ·exact pw_itoa _
 ·exact pw_itoa _
 ·exact pw_mode _
 ·exact pw_itoa _
 ·exact pw_itoa _
 ·exact pw_itoa _
 ·exact pw_itoa _
 ·exact pw_itoa _
 ·exact pw_itoa _
theorem pw_burst (b : Int) : ∀ w ∈ wordsB b, pw w := by
 intro w hw
 simp only [wordsB, List.mem_cons, List.not_mem_nil, or_false] at hw
 rcases hw with rfl | rfl
 ·exact ⟨by decide, by decide⟩
 ·exact pw_itoa _
theorem okSp_lines : ∀ (ts : List TK) (p : UInt8), (∀ t ∈ ts, named t.f0 = true) → okSp p (linesB ts) = true
 | [], _, _ => rfl
 | t :: ts, p, h => by
  rw [lines_words, okSp_line _ _ _ (by simp [wordsT]) (pw_task (h t (by simp)))]
  exact okSp_lines ts 10 (fun x hx => h x (List.mem_cons_of_mem _ hx))
theorem ends_lines : ∀ (ts : List TK), (∀ t ∈ ts, named t.f0 = true) → ends (linesB ts) = ts.length
 | [], _ => rfl
 | t :: ts, h => by
  rw [lines_words, ends_line _ _ (pw_task (h t (by simp))), ends_lines ts (fun x hx => h x (List.mem_cons_of_mem _ hx)), List.length_cons]
theorem okSp_text (b : Int) (ts : List TK) (p : UInt8) (h : ∀ t ∈ ts, named t.f0 = true) : okSp p (textB b ts) = true := by
 rw [text_words, okSp_line _ _ _ (by simp [wordsB]) (pw_burst b)]
 exact okSp_lines ts 10 h
theorem ends_text (b : Int) (ts : List TK) (h : ∀ t ∈ ts, named t.f0 = true) : ends (textB b ts) = ts.length + 1 := by
 rw [text_words, ends_line _ _ (pw_burst b), ends_lines ts h]
end Go.Proofs.YtadfcdpalcgghaaDoor.Q
