-- Where tokens stand, and what their texts come to when they are read again.
import Derived.Test.YtbopjoeihoignaaQ0
import Derived.Test.YtbopjoeihoignaaHlexA
import Derived.Test.YtbopjoeihoignaaLlex
import Derived.Test.YtbopjoeihoignaaLlexJ
import Derived.Test.YtbopjoeihoignaaLlexN
import Derived.Test.YtbopjoeihoignaaLlexR
namespace Go.Proofs.Ytbopjoeihoignaa.Q
open Go.RowKit Go.Proofs.YtbopjoeihoignaaW.PrintWords Go.Proofs.YtbopjoeihoignaaW.PrintLast Go.Proofs.YtbopjoeihoignaaW.PrintMore
attribute [local go_sem] max2_int min2_int max_two min_two max_three min_three max_four min_four   -- for this text's walks alone
set_option linter.unusedVariables false
set_option linter.unusedSimpArgs false

theorem cnt_take_step (l : List Int) (i : Nat) (h : i < l.length) : cnt (l.take (i + 1)) = cnt (l.take i) + if rd l i = 10 then 1 else 0 := by
  have e : l.take (i + 1) = l.take i ++ [rd l i] := by
    rw [List.take_succ_eq_append_getElem h]
    simp [rd, List.getD_eq_getElem?_getD, List.getElem?_eq_getElem h]
  rw [e]
  unfold cnt
  rw [List.countP_append]
  by_cases hh : rd l i = 10
  · rw [if_pos hh]; simp [hh]
  · rw [if_neg hh]; simp [hh]
theorem cnt_take_mono (l : List Int) (n : Nat) : ∀ i : Nat, i + n ≤ l.length → cnt (l.take i) ≤ cnt (l.take (i + n)) := by
  induction n with
  | zero => intro i _; exact Nat.le_refl _
  | succ n ih =>
    intro i h
    have h1 := ih i (by omega)
    have h2 := cnt_take_step l (i + n) (by omega)
    have e : i + (n + 1) = i + n + 1 := by omega
    rw [e, h2]
    omega
theorem cnt_mono {l : List Int} {i j : Nat} (h : i ≤ j) (hj : j ≤ l.length) : cnt (l.take i) ≤ cnt (l.take j) := by
  have := cnt_take_mono l (j - i) i (by omega)
  rwa [show i + (j - i) = j from by omega] at this
/-- Line n of the text begins at q. -/
def LS (l : List Int) (n : Int) (q : Nat) : Prop := q ≤ l.length ∧ n = 1 + (cnt (l.take q) : Int) ∧ (q = 0 ∨ rd l ((q : Int) - 1) = 10)
theorem LS.lt {l : List Int} {n : Int} {q : Nat} (h : LS l n q) {p : Nat} (hp : p < q) : 1 + (cnt (l.take p) : Int) < n := by
  obtain ⟨h1, h2, h3⟩ := h
  rcases h3 with h3 | h3
  · omega
  · have e : ((q : Int) - 1) = ((q - 1 : Nat) : Int) := by omega
    rw [e] at h3
    have := cnt_take_step l (q - 1) (by omega)
    rw [if_pos h3, show q - 1 + 1 = q from by omega] at this
    have := cnt_mono (l := l) (i := p) (j := q - 1) (by omega) (by omega)
    omega
theorem LS.uniq {l : List Int} {n : Int} {q q' : Nat} (h : LS l n q) (h' : LS l n q') : q = q' := by
  rcases Nat.lt_trichotomy q q' with hl | he | hl
  · have := h'.lt hl; have := h.2.1; omega
  · exact he
  · have := h.lt hl; have := h'.2.1; omega
theorem LS.next {l : List Int} {p : Nat} (hp : p < l.length) (h : rd l p = 10) : LS l (1 + (cnt (l.take p) : Int) + 1) (p + 1) := by
  refine ⟨by omega, ?_, .inr ?_⟩
  · rw [cnt_take_step l p hp, if_pos h]; omega
  · rw [show (((p + 1 : Nat) : Int) - 1) = (p : Int) from by omega]; exact h
/-- A token's text stands at its place. -/
def TokAt (l : List Int) (t : S33) : Prop := ∃ q from_ : Nat, LS l t.f3 q ∧ (from_ : Int) = q + t.f4 - 1 ∧ from_ + t.f1.size ≤ l.length ∧ (l.drop from_).take t.f1.size = bytesOf t.f1 ∧ 0 ≤ t.f4 ∧ t.f4 ≤ l.length + 1
def rend : List S33 → List Int
  | [] => []
  | t :: ts => (if t.f0 = 3 then [10] else if t.f0 = 4 then [] else bytesOf t.f1 ++ [32]) ++ rend ts
def keyT (t : S33) : Int × ByteArray × Int × Int := (t.f0, t.f1, t.f2, t.f3)
theorem rend_append (a b : List S33) : rend (a ++ b) = rend a ++ rend b := by
  induction a with
  | nil => rfl
  | cons t a ih => rw [List.cons_append, rend, rend, ih, List.append_assoc]
theorem cnt_take_add (l : List Int) (p k : Nat) (h : ∀ x ∈ (l.drop p).take k, x ≠ 10) : cnt (l.take (p + k)) = cnt (l.take p) := by
  have e : l.take (p + k) = l.take p ++ (l.drop p).take k := by
    rw [List.take_add]
  rw [e]
  unfold cnt
  rw [List.countP_append]
  have : ((l.drop p).take k).countP (· == 10) = 0 := by rw [List.countP_eq_zero]; intro x hx; simpa using h x hx
  omega
theorem str_size (t : List Int) : (strOfNums t).size = t.length := strOfNums_size t
theorem ok_bytes_of {l : List Int} (h : okBytes l = true) {t : List Int} (ht : ∀ x ∈ t, x ∈ l) : bytesOf (strOfNums t) = t :=
  bytesOf_strOfNums fun c hc => by have := List.all_eq_true.1 h _ (ht c hc); simpa using this
theorem ok_append' {a b : List Int} (ha : okBytes a = true) (hb : okBytes b = true) : okBytes (a ++ b) = true := by
  unfold okBytes at *
  rw [List.all_append, ha, hb]; rfl
theorem tw_idem (P : Int → Bool) (s : List Int) : (s.takeWhile P).takeWhile P = s.takeWhile P := by
  induction s with
  | nil => rfl
  | cons c s ih =>
    rw [List.takeWhile_cons]
    by_cases h : P c = true
    · rw [if_pos h, List.takeWhile_cons, if_pos h, ih]
    · rw [if_neg h]; rfl
theorem toks_at (l : List Int) (hok : okBytes l = true) (F : Nat) : ∀ (p q : Nat) (line : Int) (xs : List S33), l.length < p + F → p ≤ l.length → LS l line q → q ≤ p → line = 1 + (cnt (l.take p) : Int) → (toks F (l.drop p) line ((p : Int) - q + 1) xs).2.1 = 0 →
    ∃ ts e, (toks F (l.drop p) line ((p : Int) - q + 1) xs) = (xs ++ (ts ++ [e]), 0, 0, 0) ∧ (∀ t ∈ ts ++ [e], TokAt l t ∧ line ≤ t.f3) ∧ (ts ++ [e]).Pairwise (fun a b => a.f3 ≤ b.f3) ∧ e.f0 = 4 ∧ (∀ t ∈ ts, t.f0 = 1 ∨ t.f0 = 2 ∨ t.f0 = 3) ∧
      (rend (ts ++ [e])).length + 2 * p ≤ 2 * l.length ∧ okBytes (rend (ts ++ [e])) = true ∧ ts.length + p ≤ l.length ∧
      ∀ (G : Nat) (c : Int) (zs : List S33), (rend (ts ++ [e])).length < G → ∃ us, toks G (rend (ts ++ [e])) line c zs = (zs ++ us, 0, 0, 0) ∧ us.map keyT = (ts ++ [e]).map keyT := by
  induction F with
  | zero => intro p q line xs h1 h2; omega
  | succ F ih =>
    intro p q line xs hF hpl hls hqp hline he
    by_cases hlt : p < l.length
    · have hd := drop_rd l p hlt
      have hne : l.drop p ≠ [] := by rw [hd]; simp
      by_cases hpe : (piece (l.drop p)).1 = 0
      · rw [toks_go hne hpe, List.drop_drop] at he ⊢
        have hk1 := piece_pos hne hpe
        have hk2 := piece_le (l.drop p)
        rw [List.length_drop] at hk2
        rcases piece_ways (rd l p) (l.drop (p + 1)) with h | ⟨h1, h2, ⟨n, h⟩ | h⟩ | h | h | h | h | ⟨h1, h2, h3, h4, h5, h6⟩
        · -- a word
          have hpc := piece_word (s := l.drop (p + 1)) h
          rw [← hd] at hpc
          rw [hpc] at he ⊢
          simp only [tokL] at he ⊢
          rw [if_neg Bool.false_ne_true, if_neg Bool.false_ne_true] at he ⊢
          obtain ⟨tw, htw⟩ : ∃ tw, (l.drop p).takeWhile wdB = tw := ⟨_, rfl⟩
          rw [hpc] at hk1 hk2
          dsimp only at hk1 hk2
          rw [htw] at he hk1 hk2 ⊢
          have htk : (l.drop p).take tw.length = tw := by rw [← htw, tw_take]
          have hmem : ∀ x ∈ tw, wdB x = true := by rw [← htw]; exact tw_mem
          have hin : ∀ x ∈ tw, x ∈ l := fun x hx => by rw [← htk] at hx; exact List.mem_of_mem_drop (List.mem_of_mem_take hx)
          have hbw := ok_bytes_of hok hin
          have h10 : ∀ x ∈ (l.drop p).take tw.length, x ≠ 10 := by rw [htk]; rintro x hx rfl; exact absurd (hmem _ hx) (by decide)
          have hcn := cnt_take_add l p tw.length h10
          rw [show (p : Int) - q + 1 + (tw.length : Int) = ((p + tw.length : Nat) : Int) - q + 1 from by omega] at he ⊢
          obtain ⟨ts, e, a1, a2, a3, a4, a5, a6, a7, a8, a9⟩ := ih (p + tw.length) q line _ (by omega) (by omega) hls (by omega) (by rw [hcn]; exact hline) he
          refine ⟨⟨1, strOfNums tw, 0, line, (p : Int) - q + 1⟩ :: ts, e, by rw [a1]; simp, ?_, ?_, a4, ?_, ?_, ?_, ?_, ?_⟩
          · intro t ht
            rcases List.mem_cons.1 ht with rfl | ht
            · refine ⟨⟨q, p, hls, by simp; omega, by rw [str_size]; omega, ?_, by simp; omega, by simp; omega⟩, Int.le_refl _⟩
              show (l.drop p).take (strOfNums tw).size = bytesOf (strOfNums tw)
              rw [str_size, htk, hbw]
            · exact a2 t ht
          · exact List.pairwise_cons.2 ⟨fun b hb => (a2 b hb).2, a3⟩
          · intro t ht
            rcases List.mem_cons.1 ht with rfl | ht
            · exact .inl rfl
            · exact a5 t ht
          · rw [List.cons_append, rend]
            simp only [hbw]
            rw [if_neg (by decide), if_neg (by decide)]
            simp only [List.length_append, List.length_singleton] at a6 ⊢
            omega
          · rw [List.cons_append, rend]
            simp only [hbw]
            rw [if_neg (by decide), if_neg (by decide)]
            refine ok_append' (ok_append' ?_ rfl) a7
            exact List.all_eq_true.2 fun x hx => List.all_eq_true.1 hok x (hin x hx)
          · simp; omega
          · intro G c zs hG
            rw [List.cons_append, rend] at hG ⊢
            simp only [hbw] at hG ⊢
            rw [if_neg (by decide), if_neg (by decide)] at hG ⊢
            simp only [List.length_append, List.length_singleton, List.append_assoc] at hG ⊢
            have htw2 : (tw ++ 32 :: rend (ts ++ [e])).takeWhile wdB = tw := by
              rw [tw_stop (P := wdB) rfl]
              rw [← htw]; exact tw_idem _ _
            obtain ⟨c0, tl, hc⟩ : ∃ c0 tl, tw = c0 :: tl := by
              cases tw with
              | nil => simp at hk1
              | cons a b => exact ⟨a, b, rfl⟩
            have hsm : smB c0 = true := by
              rw [hd, List.takeWhile_cons, if_pos (sm_wd h)] at htw
              rw [hc] at htw
              rw [← (List.cons.inj htw).1]; exact h
            have hp2 : piece (tw ++ 32 :: rend (ts ++ [e])) = (0, tw.length, some (1, strOfNums tw, 0), false) := by
              have := piece_word (c := c0) (s := tl ++ 32 :: rend (ts ++ [e])) hsm
              rw [← List.cons_append, ← hc, htw2] at this
              exact this
            obtain ⟨G, rfl⟩ : ∃ m, G = m + 1 := ⟨G - 1, by omega⟩
            obtain ⟨G, rfl⟩ : ∃ m, G = m + 1 := ⟨G - 1, by omega⟩
            show ∃ us, toks (G + 1 + 1) (tw ++ 32 :: rend (ts ++ [e])) line c zs = (zs ++ us, 0, 0, 0) ∧ _
            rw [toks_go (by rw [hc]; simp) (by rw [hp2]), hp2]
            simp only [tokL]
            rw [if_neg Bool.false_ne_true, if_neg Bool.false_ne_true, List.drop_left, toks_go (by simp) (by rw [piece_space]), piece_space]
            simp only [tokL, List.drop_succ_cons, List.drop_zero, List.append_nil]
            rw [if_neg Bool.false_ne_true, if_neg Bool.false_ne_true]
            obtain ⟨us, b1, b2⟩ := a9 G (c + (tw.length : Int) + (1 : Nat)) (zs ++ [⟨1, strOfNums tw, 0, line, c⟩]) (by omega)
            exact ⟨⟨1, strOfNums tw, 0, line, c⟩ :: us, by rw [b1]; simp, by rw [List.map_cons, List.map_cons, b2]; rfl⟩
        · -- a number
          have hpc := piece_number (s := l.drop (p + 1)) h1 h2 h
          rw [← hd] at hpc h
          rw [hpc] at he ⊢
          simp only [tokL] at he ⊢
          rw [if_neg Bool.false_ne_true, if_neg Bool.false_ne_true] at he ⊢
          obtain ⟨tw, htw⟩ : ∃ tw, (l.drop p).takeWhile dgB = tw := ⟨_, rfl⟩
          rw [hpc] at hk1 hk2
          dsimp only at hk1 hk2
          rw [htw] at he hk1 hk2 h ⊢
          have htk : (l.drop p).take tw.length = tw := by rw [← htw, tw_take]
          have hmem : ∀ x ∈ tw, dgB x = true := by rw [← htw]; exact tw_mem
          have hin : ∀ x ∈ tw, x ∈ l := fun x hx => by rw [← htk] at hx; exact List.mem_of_mem_drop (List.mem_of_mem_take hx)
          have hbw := ok_bytes_of hok hin
          have h10 : ∀ x ∈ (l.drop p).take tw.length, x ≠ 10 := by rw [htk]; rintro x hx rfl; exact absurd (hmem _ hx) (by decide)
          have hcn := cnt_take_add l p tw.length h10
          rw [show (p : Int) - q + 1 + (tw.length : Int) = ((p + tw.length : Nat) : Int) - q + 1 from by omega] at he ⊢
          obtain ⟨ts, e, a1, a2, a3, a4, a5, a6, a7, a8, a9⟩ := ih (p + tw.length) q line _ (by omega) (by omega) hls (by omega) (by rw [hcn]; exact hline) he
          refine ⟨⟨2, strOfNums tw, n, line, (p : Int) - q + 1⟩ :: ts, e, by rw [a1]; simp, ?_, ?_, a4, ?_, ?_, ?_, ?_, ?_⟩
          · intro t ht
            rcases List.mem_cons.1 ht with rfl | ht
            · refine ⟨⟨q, p, hls, by simp; omega, by rw [str_size]; omega, ?_, by simp; omega, by simp; omega⟩, Int.le_refl _⟩
              show (l.drop p).take (strOfNums tw).size = bytesOf (strOfNums tw)
              rw [str_size, htk, hbw]
            · exact a2 t ht
          · exact List.pairwise_cons.2 ⟨fun b hb => (a2 b hb).2, a3⟩
          · intro t ht
            rcases List.mem_cons.1 ht with rfl | ht
            · exact .inr (.inl rfl)
            · exact a5 t ht
          · rw [List.cons_append, rend]
            simp only [hbw]
            rw [if_neg (by decide), if_neg (by decide)]
            simp only [List.length_append, List.length_singleton] at a6 ⊢
            omega
          · rw [List.cons_append, rend]
            simp only [hbw]
            rw [if_neg (by decide), if_neg (by decide)]
            refine ok_append' (ok_append' ?_ rfl) a7
            exact List.all_eq_true.2 fun x hx => List.all_eq_true.1 hok x (hin x hx)
          · simp; omega
          · intro G c zs hG
            rw [List.cons_append, rend] at hG ⊢
            simp only [hbw] at hG ⊢
            rw [if_neg (by decide), if_neg (by decide)] at hG ⊢
            simp only [List.length_append, List.length_singleton, List.append_assoc] at hG ⊢
            have htw2 : (tw ++ 32 :: rend (ts ++ [e])).takeWhile dgB = tw := by
              rw [tw_stop (P := dgB) rfl]
              rw [← htw]; exact tw_idem _ _
            obtain ⟨c0, tl, hc⟩ : ∃ c0 tl, tw = c0 :: tl := by
              cases tw with
              | nil => simp at hk1
              | cons a b => exact ⟨a, b, rfl⟩
            have hc0 : c0 = rd l p := by
              rw [hd, List.takeWhile_cons, if_pos h2] at htw
              rw [hc] at htw
              exact (List.cons.inj htw).1.symm
            have hp2 : piece (tw ++ 32 :: rend (ts ++ [e])) = (0, tw.length, some (2, strOfNums tw, n), false) := by
              have := piece_number (c := c0) (s := tl ++ 32 :: rend (ts ++ [e])) (n := n) (by rw [hc0]; exact h1) (by rw [hc0]; exact h2) (by rw [← List.cons_append, ← hc, htw2]; exact h)
              rw [← List.cons_append, ← hc, htw2] at this
              exact this
            obtain ⟨G, rfl⟩ : ∃ m, G = m + 1 := ⟨G - 1, by omega⟩
            obtain ⟨G, rfl⟩ : ∃ m, G = m + 1 := ⟨G - 1, by omega⟩
            show ∃ us, toks (G + 1 + 1) (tw ++ 32 :: rend (ts ++ [e])) line c zs = (zs ++ us, 0, 0, 0) ∧ _
            rw [toks_go (by rw [hc]; simp) (by rw [hp2]), hp2]
            simp only [tokL]
            rw [if_neg Bool.false_ne_true, if_neg Bool.false_ne_true, List.drop_left, toks_go (by simp) (by rw [piece_space]), piece_space]
            simp only [tokL, List.drop_succ_cons, List.drop_zero, List.append_nil]
            rw [if_neg Bool.false_ne_true, if_neg Bool.false_ne_true]
            obtain ⟨us, b1, b2⟩ := a9 G (c + (tw.length : Int) + (1 : Nat)) (zs ++ [⟨2, strOfNums tw, n, line, c⟩]) (by omega)
            exact ⟨⟨2, strOfNums tw, n, line, c⟩ :: us, by rw [b1]; simp, by rw [List.map_cons, List.map_cons, b2]; rfl⟩
        · rw [hd, piece_over h1 h2 h] at hpe; exact absurd hpe (by decide)
        · -- a line's end
          have hpc : piece (l.drop p) = (0, 1, some (3, (⟨#[]⟩ : ByteArray), 0), true) := by rw [hd, h]; exact piece_line _
          rw [hpc] at he ⊢
          simp only [tokL] at he ⊢
          rw [if_pos trivial, if_pos trivial] at he ⊢
          have hls2 := LS.next hlt h
          rw [← hline] at hls2
          rw [show (1 : Int) = ((p + 1 : Nat) : Int) - ((p + 1 : Nat) : Int) + 1 from by omega] at he
          have hcn := cnt_take_step l p hlt
          rw [if_pos h] at hcn
          have he' : (toks F (l.drop (p + 1)) (line + 1) (((p + 1 : Nat) : Int) - ((p + 1 : Nat) : Int) + 1) (xs ++ [⟨3, (⟨#[]⟩ : ByteArray), 0, line, (p : Int) - q + 1⟩])).2.1 = 0 := by
            rw [show ((p + 1 : Nat) : Int) - ((p + 1 : Nat) : Int) + 1 = 1 from by omega] at he ⊢; exact he
          obtain ⟨ts, e, a1, a2, a3, a4, a5, a6, a7, a8, a9⟩ := ih (p + 1) (p + 1) (line + 1) _ (by omega) (by omega) hls2 (Nat.le_refl _) (by rw [hcn]; omega) he'
          rw [show ((p + 1 : Nat) : Int) - ((p + 1 : Nat) : Int) + 1 = 1 from by omega] at a1
          refine ⟨⟨3, (⟨#[]⟩ : ByteArray), 0, line, (p : Int) - q + 1⟩ :: ts, e, by rw [a1]; simp, ?_, ?_, a4, ?_, ?_, ?_, ?_, ?_⟩
          · intro t ht
            rcases List.mem_cons.1 ht with rfl | ht
            · exact ⟨⟨q, p, hls, by simp; omega, by show p + 0 ≤ _; omega, rfl, by simp; omega, by simp; omega⟩, Int.le_refl _⟩
            · have := a2 t ht; exact ⟨this.1, by omega⟩
          · exact List.pairwise_cons.2 ⟨fun b hb => by have := (a2 b hb).2; simp; omega, a3⟩
          · intro t ht
            rcases List.mem_cons.1 ht with rfl | ht
            · exact .inr (.inr rfl)
            · exact a5 t ht
          · rw [List.cons_append, rend]
            rw [if_pos rfl]
            simp only [List.length_append, List.length_singleton] at a6 ⊢
            omega
          · rw [List.cons_append, rend]
            rw [if_pos rfl]
            exact ok_append' rfl a7
          · simp; omega
          · intro G c zs hG
            rw [List.cons_append, rend, if_pos rfl] at hG ⊢
            simp only [List.length_append, List.length_singleton, List.singleton_append, List.length_cons] at hG ⊢
            obtain ⟨G, rfl⟩ : ∃ m, G = m + 1 := ⟨G - 1, by omega⟩
            rw [toks_go (by simp) (by rw [piece_line]), piece_line]
            simp only [tokL, List.drop_succ_cons, List.drop_zero]
            rw [if_pos trivial, if_pos trivial]
            obtain ⟨us, b1, b2⟩ := a9 G 1 (zs ++ [⟨3, (⟨#[]⟩ : ByteArray), 0, line, c⟩]) (by omega)
            exact ⟨⟨3, (⟨#[]⟩ : ByteArray), 0, line, c⟩ :: us, by rw [b1]; simp, by rw [List.map_cons, List.map_cons, b2]; rfl⟩
        all_goals
          try (rw [hd, piece_bad h1 h2 h3 h4 h5 h6] at hpe; exact absurd hpe (by decide))
        all_goals
          rcases piece_adds hne hpe with ⟨b1, b2, b3, b4⟩ | ⟨b1, b2, b3⟩
          · rw [hd, h] at b3; exact absurd (List.cons.inj b3).1 (by decide)
          · have hnone : (piece (l.drop p)).2.2.1 = none := by
              rw [hd, h]; first | rw [piece_space] | rw [piece_tab] | rw [piece_remark]
            rw [b1, hnone, if_neg Bool.false_ne_true, if_neg Bool.false_ne_true] at he ⊢
            simp only [tokL, List.append_nil] at he ⊢
            obtain ⟨k, hk⟩ : ∃ k, (piece (l.drop p)).2.1 = k := ⟨_, rfl⟩
            rw [hk] at he hk1 hk2 b2 ⊢
            have hcn := cnt_take_add l p k b2
            rw [show (p : Int) - q + 1 + (k : Int) = ((p + k : Nat) : Int) - q + 1 from by omega] at he ⊢
            obtain ⟨ts, e, a1, a2, a3, a4, a5, a6, a7, a8, a9⟩ := ih (p + k) q line xs (by omega) (by omega) hls (by omega) (by rw [hcn]; exact hline) he
            exact ⟨ts, e, a1, a2, a3, a4, a5, by omega, a7, by omega, a9⟩
      · rw [toks_err hne hpe] at he
        exact absurd he hpe
    · have e0 : l.drop p = [] := List.drop_eq_nil_of_le (by omega)
      rw [e0, toks_end]
      refine ⟨[], ⟨4, (⟨#[]⟩ : ByteArray), 0, line, (p : Int) - q + 1⟩, rfl, ?_, ?_, rfl, by simp, ?_, rfl, by simp; omega, ?_⟩
      · intro t ht
        simp at ht
        subst ht
        exact ⟨⟨q, p, hls, by simp; omega, by show p + 0 ≤ _; omega, rfl, by simp; omega, by simp; omega⟩, Int.le_refl _⟩
      · exact List.pairwise_singleton _ _
      · have e1 : rend ([] ++ [(⟨4, (⟨#[]⟩ : ByteArray), 0, line, (p : Int) - q + 1⟩ : S33)]) = [] := by rw [List.nil_append, rend, rend, if_neg (show ¬ ((4 : Int) = 3) by decide), if_pos rfl]; rfl
        rw [e1]; simp; omega
      · intro G c zs hG
        have e1 : rend ([] ++ [(⟨4, (⟨#[]⟩ : ByteArray), 0, line, (p : Int) - q + 1⟩ : S33)]) = [] := by rw [List.nil_append, rend, rend, if_neg (show ¬ ((4 : Int) = 3) by decide), if_pos rfl]; rfl
        rw [e1] at hG ⊢
        obtain ⟨G, rfl⟩ : ∃ m, G = m + 1 := ⟨G - 1, by omega⟩
        rw [toks_end]
        exact ⟨[⟨4, (⟨#[]⟩ : ByteArray), 0, line, c⟩], rfl, rfl⟩
end Go.Proofs.Ytbopjoeihoignaa.Q
