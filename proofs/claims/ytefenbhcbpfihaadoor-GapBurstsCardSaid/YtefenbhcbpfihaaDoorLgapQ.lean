-- The least gap of greater bursts, of fewer tasks, of turned ones; what gap.Least answers (no program in sight).
-- NEEDS pendulum/pendulumref05.Right
-- PLAIN
import Derived.Test.YtefenbhcbpfihaaDoorM0
import Derived.Test.YtefenbhcbpfihaaDoorHgapC
import Derived.Test.YtefenbhcbpfihaaDoorM17
namespace Go.Proofs.YtefenbhcbpfihaaDoor.Q
open Go.RowKit Go.Proofs.YtefenbhcbpfihaaDoorW.PrintWords Go.Proofs.YtefenbhcbpfihaaDoorW.PrintLast Go.Proofs.YtefenbhcbpfihaaDoorW.PrintMore
attribute [local go_sem] max2_int min2_int max_two min_two max_three min_three max_four min_four   -- for this text's walks alone
set_option linter.unusedVariables false
set_option linter.unusedSimpArgs false

theorem least_ok {b : Int} {ts : List TK} (h : RightS b ts) (hN : gapI b ts < 1049576) : gap_Least.f b ts = some ((gapI b ts : Int) + 1, (jdg b ts ((gapI b ts : Int) + 1)).1, (jdg b ts ((gapI b ts : Int) + 1)).2.1, (jdg b ts ((gapI b ts : Int) + 1)).2.2, 0) := by
 unfold gap_Least.f
 rw [if_pos (by rw [(rightS_iff b ts).2 h]; rfl), if_pos hN]
theorem least_none {b : Int} {ts : List TK} (h : RightS b ts) (hN : ¬ gapI b ts < 1049576) : gap_Least.f b ts = some (0, (jdg b ts 1049576).1, (jdg b ts 1049576).2.1, (jdg b ts 1049576).2.2, 4) := by
 unfold gap_Least.f
 rw [if_pos (by rw [(rightS_iff b ts).2 h]; rfl), if_neg hN]
theorem least_wrong {b : Int} {ts : List TK} (h : ¬ RightS b ts) : gap_Least.f b ts = some (0, false, 0, [], 1) := by
 unfold gap_Least.f
 rw [if_neg (fun e => h ((rightS_iff b ts).1 (by simpa using e)))]
theorem acc_at {b : Int} {ts : List TK} (h : RightS b ts) (x : Int) (h1 : 1 ≤ x) (h2 : x ≤ 1049576) : accB b ts x = decide (x ≥ (gapI b ts : Int) + 1) := by
 by_cases hx : x ≥ (gapI b ts : Int) + 1
 ·rw [decide_eq_true hx]
  exact acc_mono h (by omega) hx (gapI_is (by omega))
 ·rw [decide_eq_false hx]
  have := gapI_less (b := b) (ts := ts) (x - 1).toNat (by omega)
  rw [show (((x - 1).toNat : Nat) : Int) + 1 = x by omega] at this
  exact this
/-- What is accepted of one is of the other: the least gap is no greater. -/
theorem gapI_mono {b b' : Int} {ts ts' : List TK} (h : ∀ g, 1 ≤ g → accB b ts g = true → accB b' ts' g = true) : gapI b' ts' ≤ gapI b ts := by
 rcases Nat.lt_or_ge (gapI b ts) (gapI b' ts') with hlt | hge
 ·have h1 := gapI_less (gapI b ts) hlt
  have h2 := gapI_is (b := b) (ts := ts) (by have := gapI_le b' ts'; omega)
  rw [h _ (by omega) h2] at h1
  cases h1
 ·exact hge
theorem most_burst {w b b' g : Int} (hw : 0 ≤ w) (hb : 1 ≤ b) (hg : 1 ≤ g) (h : b ≤ b') : mostF w b g ≤ mostF w b' g := by
 unfold mostF
 by_cases h0 : w = 0
 ·rw [if_pos h0, if_pos h0]; exact Int.le_refl _
 ·rw [if_neg h0, if_neg h0]; exact ceil_mono (by omega) (by omega)
theorem next_burst {b b' : Int} {ts : List TK} {t : TK} {g w : Int} (hw : 0 ≤ w) (hb : 1 ≤ b) (hg : 1 ≤ g) (h : b ≤ b') : nextF b ts t g w ≤ nextF b' ts t g w := by
 unfold nextF
 have h0 := dear_ge t.f10 ts 0
 have h1 := Int.mul_le_mul (most_burst hw hb hg h) (Int.mul_le_mul_of_nonneg_right h h0) (Int.mul_nonneg (show 0 ≤ b by omega) h0) (most_pos hw (show 1 ≤ b' by omega) hg)
 omega
theorem burst_right {b b' : Int} {ts : List TK} (h : RightS b ts) (h1 : 1 ≤ b') (h2 : b' ≤ 1000) : RightS b' ts := ⟨h1, h2, h.n0, h.n1, h.each⟩
theorem acc_burst {b b' : Int} {ts : List TK} (h : RightS b ts) (hle : b ≤ b') (hb : b' ≤ 1000) (g : Int) (hg : 1 ≤ g) (ha : accB b' ts g = true) : accB b ts g = true := by
 rw [acc_iff] at ha ⊢
 intro i hi
 have hd := (h.dem _ (tkA_mem ts i hi)).D1
 have h1 := ha i hi
 unfold respI at h1 ⊢
 exact resp_less _ _ _ _ (fun a c => h.mono hg _ a c) (next_zero h hg i hi) (fun w hw => next_burst hw h.b0 hg hle) (Int.le_refl _) _ _ (by omega) h1
theorem dear_sub (p : Int) {l1 l2 : List TK} (h : l1.Sublist l2) : ∀ m m' : Int, m ≤ m' → dearL p l1 m ≤ dearL p l2 m' ∧ aheadL p l1 m ≤ aheadL p l2 m' := by
 induction h with
 | slnil => intro m m' hm; exact ⟨hm, hm⟩
 | cons a _ ih =>
  intro m m' hm
  refine ⟨?_, ?_⟩
  ·rw [dearL]
   refine (ih m _ ?_).1
   split <;> omega
  ·rw [aheadL]
   refine (ih m _ ?_).2
   split <;> omega
 | cons_cons a _ ih =>
  intro m m' hm
  refine ⟨?_, ?_⟩
  ·rw [dearL, dearL]
   refine (ih _ _ ?_).1
   split <;> omega
  ·rw [aheadL, aheadL]
   refine (ih _ _ ?_).2
   split <;> omega
theorem above_sub (p w : Int) (hw : 0 ≤ w) {l1 l2 : List TK} (h : l1.Sublist l2) : (∀ t ∈ l2, Dem t) → aboveL p w l1 ≤ aboveL p w l2 := by
 induction h with
 | slnil => intro _; exact Int.le_refl _
 | cons a _ ih =>
  intro hd
  have h1 := ih (fun t ht => hd t (List.mem_cons_of_mem _ ht))
  have ha := hd a List.mem_cons_self
  have h2 := Int.mul_nonneg (ceil_pos (show 0 < a.f1 from by have := ha.T1; omega) hw) (show 0 ≤ wholeF a from by have := ha.whole; omega)
  rw [aboveL]
  split <;> omega
 | cons_cons a _ ih =>
  intro hd
  have h1 := ih (fun t ht => hd t (List.mem_cons_of_mem _ ht))
  rw [aboveL, aboveL]
  split <;> omega
theorem next_sub {b : Int} {ts cs : List TK} (hs : cs.Sublist ts) (hd : ∀ t ∈ ts, Dem t) {t : TK} {g w : Int} (hw : 0 ≤ w) (hb : 1 ≤ b) (hg : 1 ≤ g) : nextF b cs t g w ≤ nextF b ts t g w := by
 unfold nextF
 have h1 := (dear_sub t.f10 hs 0 0 (Int.le_refl _))
 have h2 := above_sub t.f10 w hw hs hd
 have h3 := Int.mul_le_mul_of_nonneg_left (Int.mul_le_mul_of_nonneg_left h1.1 (show 0 ≤ b by omega)) (most_pos hw hb hg)
 have h4 := h1.2
 omega
theorem sub_right {b : Int} {ts cs : List TK} (h : RightS b ts) (hs : cs.Sublist ts) (h0 : 1 ≤ cs.length) : RightS b cs := by
 have hp : ts.Pairwise (fun x y => x.f0 ≠ y.f0 ∧ x.f10 ≠ y.f10) := List.pairwise_iff_getElem.2 (fun i j hi hj hij => h.apart i j hi hj (by omega))
 have hq := List.pairwise_iff_getElem.1 (hp.sublist hs)
 exact RightS.mk' h.b0 h.b1 h0 (Nat.le_trans hs.length_le h.n1) (fun t ht => h.task (hs.subset ht)) (fun i j hi hj hij => hq i j hi hj hij)
theorem acc_sub {b : Int} {ts cs : List TK} (h : RightS b ts) (hs : cs.Sublist ts) (h0 : 1 ≤ cs.length) (g : Int) (hg : 1 ≤ g) (ha : accB b ts g = true) : accB b cs g = true := by
 have hc := sub_right h hs h0
 rw [acc_iff] at ha ⊢
 intro i hi
 have hm : tkA cs i ∈ ts := hs.subset (tkA_mem cs i hi)
 obtain ⟨j, hj, e⟩ := List.getElem_of_mem hm
 have hd := (h.dem _ hm).D1
 have h1 := ha j hj
 unfold respI at h1 ⊢
 rw [tkA_get ts j hj, e] at h1
 exact resp_less _ _ _ _ (fun a c => hc.mono hg _ a c) (next_zero hc hg i hi) (fun w hw => next_sub hs h.dem hw h.b0 hg) (Int.le_refl _) _ _ (by omega) h1
theorem gapI_turn {b : Int} {ts : List TK} (h : RightS b ts) (q : Nat) (hq : q < ts.length) : gapI b (rotL q ts) = gapI b ts := by
 have e : ∀ g, accB b (rotL q ts) g = accB b ts g := fun g => (jdg_turn h q hq g).1
 exact Nat.le_antisymm (gapI_mono (fun g _ ha => by rw [e]; exact ha)) (gapI_mono (fun g _ ha => by rw [← e]; exact ha))
end Go.Proofs.YtefenbhcbpfihaaDoor.Q
