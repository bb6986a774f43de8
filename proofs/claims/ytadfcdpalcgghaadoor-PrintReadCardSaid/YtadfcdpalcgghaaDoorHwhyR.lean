-- Why a set isn't right, as the reference tells it: walked by hand, in the printer's form.
-- HAND pendulum/pendulumref05.Why rounds=0 making=1
-- NEEDS pendulum/pendulumref03.Named pendulum/task.in pendulum/index.Named
import Derived.Test.YtadfcdpalcgghaaDoorM0
namespace Go.Proofs.YtadfcdpalcgghaaDoor.Q
open Go.RowKit Go.Proofs.YtadfcdpalcgghaaDoorW.PrintWords Go.Proofs.YtadfcdpalcgghaaDoorW.PrintLast Go.Proofs.YtadfcdpalcgghaaDoorW.PrintMore
attribute [local go_sem] max2_int min2_int max_two min_two max_three min_three max_four min_four   -- for this text's walks alone
set_option linter.unusedVariables false
set_option linter.unusedSimpArgs false

def pendulumref05_Why.f (b : Int) (ts : List TK) : Option (Int × Int) := some (whyS b ts)
def nmB (t : TK) (l : List TK) : Bool := !named t.f0 || l.any (fun x => x.f0.toList == t.f0.toList)
def prB (t : TK) (l : List TK) : Bool := !inB t.f10 0 255 || l.any (fun x => x.f10 == t.f10)
theorem nmB_not (t : TK) (l : List TK) : nmB t l = !tNamed t l := by unfold nmB tNamed; cases named t.f0 <;> simp
theorem prB_not (t : TK) (l : List TK) : prB t l = !tRanked t l := by unfold prB tRanked; cases inB t.f10 0 255 <;> simp
theorem nmB_step (t x : TK) (ts : List TK) (k : Nat) (h : ts[k]? = some x) : nmB t (ts.take (k + 1)) = (nmB t (ts.take k) || (x.f0.toList == t.f0.toList)) := by
 obtain ⟨hk, hx⟩ := List.getElem?_eq_some_iff.1 h
 unfold nmB
 rw [List.take_succ_eq_append_getElem hk, List.any_append, hx, Bool.or_assoc]
 simp
theorem prB_step (t x : TK) (ts : List TK) (k : Nat) (h : ts[k]? = some x) : prB t (ts.take (k + 1)) = (prB t (ts.take k) || (x.f10 == t.f10)) := by
 obtain ⟨hk, hx⟩ := List.getElem?_eq_some_iff.1 h
 unfold prB
 rw [List.take_succ_eq_append_getElem hk, List.any_append, hx, Bool.or_assoc]
 simp
theorem prB_nil1 (t : TK) (h : t.f10 < 0) : prB t [] = true := by unfold prB inB; simp; omega
theorem prB_nil2 (t : TK) (h : 0 ≤ t.f10) : prB t [] = decide (t.f10 > 255) := by
 unfold prB inB
 have : decide (t.f10 ≥ 0) = true := by simp; omega
 rw [this, List.any_nil, Bool.or_false, Bool.true_and, ← decide_not, decide_eq_decide]; omega
theorem nmB_nil (t : TK) : nmB t [] = !named t.f0 := by unfold nmB; simp
theorem md_bad (t : TK) (h : t.f9 < 1 ∨ t.f9 > 3 ∨ (t.f9 = 1 ∧ (t.f5 < 1 ∨ t.f5 > t.f3 ∨ t.f4 ≠ 0)) ∨ (t.f9 > 1 ∧ (t.f4 < 1 ∨ t.f4 > t.f2 ∨ t.f5 ≠ 0))) : tModed t = false := by
 unfold tModed inB
 by_cases h1 : t.f9 = 1
 ·rw [if_pos h1]; simp; omega
 ·rw [if_neg h1]; simp; omega
theorem md_ok (t : TK) (h0 : 1 ≤ t.f9) (h3 : t.f9 ≤ 3) (h : t.f9 = 1 → 1 ≤ t.f5 ∧ t.f5 ≤ t.f3 ∧ t.f4 = 0) (g : t.f9 > 1 → 1 ≤ t.f4 ∧ t.f4 ≤ t.f2 ∧ t.f5 = 0) : tModed t = true := by
 unfold tModed inB
 by_cases h1 : t.f9 = 1
 ·rw [if_pos h1]; have := h h1; simp; omega
 ·rw [if_neg h1]; have := g (by omega); simp; omega
theorem wT3 {t : TK} {a : List TK} (h : nmB t a = true) : whyT t a = 3 := by
 rw [nmB_not] at h; unfold whyT; rw [if_pos (by simpa using h)]
theorem wTn {t : TK} {a : List TK} (h : nmB t a = false) : tNamed t a = true := by rw [nmB_not] at h; simpa using h
theorem wT4 {t : TK} {a : List TK} (h0 : nmB t a = false) (h : t.f3 < 1 ∨ t.f3 > t.f2 ∨ t.f2 > t.f1 ∨ t.f1 > 1048576 ∨ t.f6 < 0 ∨ t.f6 > 1000) : whyT t a = 4 := by
 unfold whyT
 rw [if_neg (by rw [wTn h0]; decide), if_pos (by unfold tTimed inB; simp; omega)]
theorem wTt {t : TK} (h : 1 ≤ t.f3 ∧ t.f3 ≤ t.f2 ∧ t.f2 ≤ t.f1 ∧ t.f1 ≤ 1048576 ∧ 0 ≤ t.f6 ∧ t.f6 ≤ 1000) : tTimed t = true := by unfold tTimed inB; simp; omega
theorem wT5 {t : TK} {a : List TK} (h0 : nmB t a = false) (h : 1 ≤ t.f3 ∧ t.f3 ≤ t.f2 ∧ t.f2 ≤ t.f1 ∧ t.f1 ≤ 1048576 ∧ 0 ≤ t.f6 ∧ t.f6 ≤ 1000) (hm : tModed t = false) : whyT t a = 5 := by
 unfold whyT
 rw [if_neg (by rw [wTn h0]; decide), if_neg (by rw [wTt h]; decide), if_pos hm]
theorem wT6 {t : TK} {a : List TK} (h0 : nmB t a = false) (h : 1 ≤ t.f3 ∧ t.f3 ≤ t.f2 ∧ t.f2 ≤ t.f1 ∧ t.f1 ≤ 1048576 ∧ 0 ≤ t.f6 ∧ t.f6 ≤ 1000) (hm : tModed t = true) (hf : t.f7 < 1 ∨ t.f7 > t.f8 ∨ t.f8 > 64) : whyT t a = 6 := by
 unfold whyT
 rw [if_neg (by rw [wTn h0]; decide), if_neg (by rw [wTt h]; decide), if_neg (by rw [hm]; decide), if_pos (by unfold tFirm inB; simp; omega)]
theorem wTf {t : TK} (hf : 1 ≤ t.f7 ∧ t.f7 ≤ t.f8 ∧ t.f8 ≤ 64) : tFirm t = true := by unfold tFirm inB; simp; omega
theorem wT7 {t : TK} {a : List TK} (h0 : nmB t a = false) (h : 1 ≤ t.f3 ∧ t.f3 ≤ t.f2 ∧ t.f2 ≤ t.f1 ∧ t.f1 ≤ 1048576 ∧ 0 ≤ t.f6 ∧ t.f6 ≤ 1000) (hm : tModed t = true) (hf : 1 ≤ t.f7 ∧ t.f7 ≤ t.f8 ∧ t.f8 ≤ 64) (hp : prB t a = true) : whyT t a = 7 := by
 rw [prB_not] at hp
 unfold whyT
 rw [if_neg (by rw [wTn h0]; decide), if_neg (by rw [wTt h]; decide), if_neg (by rw [hm]; decide), if_neg (by rw [wTf hf]; decide), if_pos (by simpa using hp)]
theorem wT0 {t : TK} {a : List TK} (h0 : nmB t a = false) (h : 1 ≤ t.f3 ∧ t.f3 ≤ t.f2 ∧ t.f2 ≤ t.f1 ∧ t.f1 ≤ 1048576 ∧ 0 ≤ t.f6 ∧ t.f6 ≤ 1000) (hm : tModed t = true) (hf : 1 ≤ t.f7 ∧ t.f7 ≤ t.f8 ∧ t.f8 ≤ 64) (hp : prB t a = false) : whyT t a = 0 := by
 rw [prB_not] at hp
 unfold whyT
 rw [if_neg (by rw [wTn h0]; decide), if_neg (by rw [wTt h]; decide), if_neg (by rw [hm]; decide), if_neg (by rw [wTf hf]; decide), if_neg (by simpa using hp)]
theorem why_stop {ts : List TK} {i : Nat} {t : TK} (ht : ts[i]? = some t) (hF : whyFrom (ts.drop i) (ts.take i) (i : Int) = whyFrom ts [] 0) {n : Int} (hw : whyT t (ts.take i) = n) (hn : n ≠ 0) : whyFrom ts [] 0 = (n, (i : Int)) := by
 obtain ⟨hlt, hx⟩ := List.getElem?_eq_some_iff.1 ht
 rw [← hF, List.drop_eq_getElem_cons hlt, hx, whyFrom, hw, if_neg hn]
theorem why_on {ts : List TK} {i : Nat} {t : TK} (ht : ts[i]? = some t) (hF : whyFrom (ts.drop i) (ts.take i) (i : Int) = whyFrom ts [] 0) (hw : whyT t (ts.take i) = 0) : whyFrom (ts.drop (i + 1)) (ts.take (i + 1)) ((i + 1 : Nat) : Int) = whyFrom ts [] 0 := by
 obtain ⟨hlt, hx⟩ := List.getElem?_eq_some_iff.1 ht
 rw [← hF, List.drop_eq_getElem_cons hlt, hx, whyFrom, if_pos hw, List.take_succ_eq_append_getElem hlt, hx]
 rfl
set_option maxHeartbeats 4000000 in
set_option maxRecDepth 100000 in
theorem refwhy_ask (b : Int) (A : Option Addr) (c : Nat) (ts : List TK) (W : World) (hts : Kd.C k26 W A ts.length ts) (hc : ts.length ≤ c) :
  Calls Tryd.prog 24 #[.agg #[.int .i64 b, .slice A ts.length c]] W fun e w' => e = .returned (.tuple #[.int .i64 (whyS b ts).1, .int .i64 (whyS b ts).2]) ∧ Below W.heap.size W w' := by
 have HC := Aside0.mk hts
 have hml : ts.length ≤ 9223372036854775807 := hts.2.1
 clear hts
 obtain ⟨W1, hW1⟩ : ∃ W1, W1 = W.alloc (.cells #[.int .i64 b, .slice A ts.length c] 24 (0, 0)) := ⟨_, rfl⟩
 have HB1 : Aside0 (Below W.heap.size W W1) := ⟨by rw [hW1]; exact below_alloc (Below.refl _ _) _⟩
 have HK1 : Aside0 (W1.heap[W.heap.size]? = some (.cells #[.int .i64 b, .slice A ts.length c] 24 (0, 0))) := ⟨by rw [hW1]; exact blk_new W _⟩
 have HW1 := Aside0.mk hW1
 clear hW1
 by_cases hb : 1 ≤ b ∧ b ≤ 1000
 ·obtain ⟨hb1, hb2⟩ := hb
  have d1 : decide (b < 1) = false := by simp; omega
  have d2 : decide (b > 1000) = false := by simp; omega
  by_cases hl : 1 ≤ ts.length ∧ ts.length ≤ 16
  ·obtain ⟨hl1, hl2⟩ := hl
   have e1 : decide ((ts.length : Int) < 1) = false := by simp; omega
   have e2 : decide ((ts.length : Int) > 16) = false := by simp; omega
   have HW : Aside0 (whyS b ts = whyFrom ts [] 0) := ⟨by
    unfold whyS
    rw [if_neg (by unfold inB; simp; omega), if_neg (by unfold inB; simp; omega)]⟩
   go_enter Tryd.func24, Tryd.ntmps24
   go_wp2_with fail
   rw [← HW1.out]
   obtain ⟨gs, hgs⟩ : ∃ gs, W.heap.size = gs := ⟨_, rfl⟩
   have HGS := Aside0.mk hgs
   rw [hgs] at HK1 ⊢
   clear hgs
   go_loopg [4] ts.length (fun kk v4 wr => ∃ i : Nat, v4 = .int .i64 i ∧ i + kk = ts.length ∧ Aside0 (whyFrom (ts.drop i) (ts.take i) (i : Int) = whyFrom ts [] 0) ∧ Aside0 (Below W.heap.size W wr) ∧ Aside0 (wr.heap[gs]? = some (.cells #[.int .i64 b, .slice A ts.length c] 24 (0, 0))))
   case atStart => exact ⟨0, rfl, by omega, ⟨by simp⟩, HB1, HK1⟩
   case round => as_aux_lemma =>
    clear HB1 HK1
    obtain ⟨i, rfl, hik, HF, HB, HK⟩ := hrel
    have y1 := blk_cell HK.out 1
    by_cases hlt : i < ts.length
    ·have hd : decide ((i : Int) < (ts.length : Int)) = true := by simp; omega
     obtain ⟨ad, e, x0, x1, x2, x3, x4, x5, x6, x7, x8, x9, x10⟩ := at_T26 (Kd.C_below HC.out HB.out) (i : Int) (by omega) (by omega)
     cases e
     simp only [Int.toNat_natCast] at x0 x1 x2 x3 x4 x5 x6 x7 x8 x9 x10
     obtain ⟨t, ht⟩ : ∃ t, rd_T26 ts (i : Int) = t := ⟨_, rfl⟩
     have HTI : Aside0 (ts[i]? = some t) := ⟨by rw [← ht]; simp [rd_T26, List.getD_eq_getElem?_getD, List.getElem?_eq_getElem hlt]⟩
     rw [ht] at x0 x1 x2 x3 x4 x5 x6 x7 x8 x9 x10
     have p0 : (0 : Int) ≤ i := by omega
     have p1 : (i : Int) < (ts.length : Int) := by omega
     clear ht
     go_wp2_with fail
     obtain ⟨gt, hgt⟩ : ∃ gt, wr.heap.size = gt := ⟨_, rfl⟩
     obtain ⟨W2, hW2⟩ : ∃ W2, W2 = wr.alloc (.cells (tkC t) 26 (0, 0)) := ⟨_, rfl⟩
     have HW2 := Aside0.mk hW2
     have HB2 : Aside0 (Below W.heap.size W W2) := ⟨by rw [hW2]; exact below_alloc HB.out _⟩
     have HK2 : Aside0 (W2.heap[gs]? = some (.cells #[.int .i64 b, .slice (some ad) ts.length c] 24 (0, 0))) := ⟨by rw [hW2]; exact blk_alloc HK.out _⟩
     have HT2 : Aside0 (W2.heap[gt]? = some (.cells (tkC t) 26 (0, 0))) := ⟨by rw [hW2, ← hgt]; exact blk_new wr _⟩
     rw [hgt]
     clear hgt hW2 HB HK x0 x1 x2 x3 x4 x5 x6 x7 x8 x9 x10 y1
     obtain ⟨nb, hnb⟩ : ∃ nb, named t.f0 = nb := ⟨_, rfl⟩
     have HNB := Aside0.mk hnb
     clear hnb
     refine (show Calls Tryd.prog 35 #[.string t.f0] (wr.alloc (.cells (tkC t) 26 (0, 0))) _ from by rw [← HW2.out]; exact pendulumref03_Named.calls 20 t.f0 nb W2 (by rw [ref_named t.f0 20 (Nat.le_refl _), HNB.out])).mono ?_
     rintro e wA ⟨rfl, hd2⟩
     have hb := hd2.below
     have HBA := Aside0.mk (below_step HB2.out hb)
     have HKA := Aside0.mk (blk_below HK2.out hb)
     have HTA := Aside0.mk (blk_below HT2.out hb)
     clear hd2 hb HB2 HK2 HT2 HW2
     have z10 : wA.cell? ⟨gt, 10, none⟩ = some (.int .i64 t.f10) := blk_cell HTA.out 10
     go_upto_region 10 with fail
     go_cut [7] (fun s7 wx => s7 = .bool (prB t []) ∧ wx = wA)
     case first => as_aux_lemma =>
      by_cases h1 : t.f10 < 0
      ·go_wp2_with fail
       go_meet
       exact ⟨by rw [prB_nil1 t (by omega)], rfl⟩
      ·have h1' : decide (t.f10 < 0) = false := by simpa using h1
       go_wp2_with fail
       go_meet
       exact ⟨by rw [prB_nil2 t (by omega)], rfl⟩
     case rest => as_aux_lemma =>
      obtain ⟨rfl, rfl⟩ := hcut
      obtain ⟨pb, hpb⟩ : ∃ pb, prB t [] = pb := ⟨_, rfl⟩
      have HPB := Aside0.mk hpb
      rw [hpb]
      clear hpb z10
      go_wp2_with fail
      go_loopg [6, 7, 8] i (fun kk v6 v7 v8 wr => ∃ (k : Nat) (nk pk : Bool), v8 = .int .i64 k ∧ k + kk = i ∧ v6 = .bool nk ∧ v7 = .bool pk ∧ Aside0 (nk = nmB t (ts.take k)) ∧ Aside0 (pk = prB t (ts.take k)) ∧ Aside0 (Below W.heap.size W wr) ∧ Aside0 (wr.heap[gs]? = some (.cells #[.int .i64 b, .slice (some ad) ts.length c] 24 (0, 0))) ∧ Aside0 (wr.heap[gt]? = some (.cells (tkC t) 26 (0, 0))))
      case atStart => exact ⟨0, !nb, pb, rfl, by omega, rfl, rfl, ⟨by rw [List.take_zero, nmB_nil, HNB.out]⟩, ⟨by rw [List.take_zero, HPB.out]⟩, HBA, HKA, HTA⟩
      case round => as_aux_lemma =>
       clear HBA HKA HTA
       obtain ⟨k, nk, pk, rfl, hkk, rfl, rfl, HN, HP, HB, HK, HT⟩ := hrel
       by_cases hki : k < i
       ·have hd : decide ((k : Int) < (i : Int)) = true := by simp; omega
        obtain ⟨ad', e, y0, y1, y2, y3, y4, y5, y6, y7, y8, y9, y10⟩ := at_T26 (Kd.C_below HC.out HB.out) (k : Int) (by omega) (by omega)
        cases e
        simp only [Int.toNat_natCast] at y0 y10
        clear y1 y2 y3 y4 y5 y6 y7 y8 y9
        obtain ⟨x, hx⟩ : ∃ x, rd_T26 ts (k : Int) = x := ⟨_, rfl⟩
        have HXI : Aside0 (ts[k]? = some x) := ⟨by rw [← hx]; simp [rd_T26, List.getD_eq_getElem?_getD, List.getElem?_eq_getElem (show k < ts.length by omega)]⟩
        rw [hx] at y0 y10
        have q0 : (0 : Int) ≤ k := by omega
        have q1 : (k : Int) < (ts.length : Int) := by omega
        have s1 := blk_cell HK.out 1
        have z0 : wr.cell? ⟨gt, 0, none⟩ = some (.string t.f0) := blk_cell HT.out 0
        have z10 : wr.cell? ⟨gt, 10, none⟩ = some (.int .i64 t.f10) := blk_cell HT.out 10
        have HN2 := Aside0.mk (nmB_step t x ts k HXI.out)
        have HP2 := Aside0.mk (prB_step t x ts k HXI.out)
        clear hx
        cases nk <;> cases pk
        all_goals
         go_wp2_with fail
         go_quiet (fail)
         go_wp2_with fail
         go_quiet (fail)
         go_wp2_with fail
         go_roundg (i - (k + 1))
         case measure => omega
         case rel => exact ⟨k + 1, _, _, by first | rfl | simp, by omega, rfl, rfl, ⟨by rw [HN2.out, ← HN.out]; rfl⟩, ⟨by rw [HP2.out, ← HP.out]; rfl⟩, ⟨by repeat (first | exact HB.out | apply below_drew | apply pw_below_drewN)⟩, ⟨HK.out⟩, ⟨HT.out⟩⟩
       ·have hd : decide ((k : Int) < (i : Int)) = false := by simp; omega
        obtain rfl : k = i := by omega
        have z1 : wr.cell? ⟨gt, 1, none⟩ = some (.int .i64 t.f1) := blk_cell HT.out 1
        have z2 : wr.cell? ⟨gt, 2, none⟩ = some (.int .i64 t.f2) := blk_cell HT.out 2
        have z3 : wr.cell? ⟨gt, 3, none⟩ = some (.int .i64 t.f3) := blk_cell HT.out 3
        have z4 : wr.cell? ⟨gt, 4, none⟩ = some (.int .i64 t.f4) := blk_cell HT.out 4
        have z5 : wr.cell? ⟨gt, 5, none⟩ = some (.int .i64 t.f5) := blk_cell HT.out 5
        have z6 : wr.cell? ⟨gt, 6, none⟩ = some (.int .i64 t.f6) := blk_cell HT.out 6
        have z7 : wr.cell? ⟨gt, 7, none⟩ = some (.int .i64 t.f7) := blk_cell HT.out 7
        have z8 : wr.cell? ⟨gt, 8, none⟩ = some (.int .i64 t.f8) := blk_cell HT.out 8
        have z9 : wr.cell? ⟨gt, 9, none⟩ = some (.int .i64 t.f9) := blk_cell HT.out 9

        go_upto_region 16 with fail
        go_cut [9] (fun s9 wx => s9 = .bool (!tModed t) ∧ wx = wr)
        case first => as_aux_lemma =>
         by_cases m1 : t.f9 < 1
         ·go_wp2_with fail
          go_meet
          exact ⟨by rw [md_bad t (by omega)]; rfl, rfl⟩
         ·have m1' : decide (t.f9 < 1) = false := by simp; omega
          by_cases m2 : t.f9 > 3
          ·go_wp2_with fail
           go_meet
           exact ⟨by rw [md_bad t (by omega)]; rfl, rfl⟩
          ·have m2' : decide (t.f9 > 3) = false := by simp; omega
           by_cases m3 : t.f9 = 1
           ·have m3' : (t.f9 == 1) = true := by simp [m3]
            have m4' : decide (t.f9 > 1) = false := by simp; omega
            have M3 := Aside0.mk m3
            clear m3
            by_cases a1 : t.f5 < 1
            ·go_wp2_with fail
             go_meet
             exact ⟨by rw [md_bad t (by have := M3.out; omega)]; rfl, rfl⟩
            ·have a1' : decide (t.f5 < 1) = false := by simp; omega
             by_cases a2 : t.f5 > t.f3
             ·go_wp2_with fail
              go_meet
              exact ⟨by rw [md_bad t (by have := M3.out; omega)]; rfl, rfl⟩
             ·have a2' : decide (t.f5 > t.f3) = false := by simp; omega
              by_cases a3 : t.f4 = 0
              ·have a3' : (t.f4 != 0) = false := by simp [a3]
               have A3 := Aside0.mk a3
               clear a3
               go_wp2_with fail
               go_meet
               exact ⟨by rw [md_ok t (by omega) (by omega) (by have := A3.out; omega) (by have := M3.out; omega)]; rfl, rfl⟩
              ·have a3' : (t.f4 != 0) = true := by simpa using a3
               go_wp2_with fail
               go_meet
               exact ⟨by rw [md_bad t (by have := M3.out; omega)]; rfl, rfl⟩
           ·have m3' : (t.f9 == 1) = false := by simpa using m3
            have m4' : decide (t.f9 > 1) = true := by simp; omega
            by_cases b1 : t.f4 < 1
            ·go_wp2_with fail
             go_meet
             exact ⟨by rw [md_bad t (by omega)]; rfl, rfl⟩
            ·have b1' : decide (t.f4 < 1) = false := by simp; omega
             by_cases b2 : t.f4 > t.f2
             ·go_wp2_with fail
              go_meet
              exact ⟨by rw [md_bad t (by omega)]; rfl, rfl⟩
             ·have b2' : decide (t.f4 > t.f2) = false := by simp; omega
              by_cases b3 : t.f5 = 0
              ·have b3' : (t.f5 != 0) = false := by simp [b3]
               have B3 := Aside0.mk b3
               clear b3
               go_wp2_with fail
               go_meet
               exact ⟨by rw [md_ok t (by omega) (by omega) (by omega) (by have := B3.out; omega)]; rfl, rfl⟩
              ·have b3' : (t.f5 != 0) = true := by simpa using b3
               go_wp2_with fail
               go_meet
               exact ⟨by rw [md_bad t (by omega)]; rfl, rfl⟩
        case rest => as_aux_lemma =>
         obtain ⟨rfl, rfl⟩ := hcut
         obtain ⟨mb, hmb⟩ : ∃ mb, tModed t = mb := ⟨_, rfl⟩
         have HM := Aside0.mk hmb
         rw [hmb]
         clear hmb
         cases nk with
         | true =>
          go_wp2_with fail
          go_ret2
          exact ⟨by rw [HW.out, why_stop HTI.out HF.out (wT3 HN.out.symm) (by decide)]; rfl, HB.out⟩
         | false =>
          by_cases c0 : t.f3 < 1
          ·go_wp2_with fail
           go_ret2
           exact ⟨by rw [HW.out, why_stop HTI.out HF.out (wT4 HN.out.symm (by omega)) (by decide)]; rfl, HB.out⟩
          ·have c0' : decide (t.f3 < 1) = false := by simp; omega
           by_cases c1 : t.f3 > t.f2
           ·go_wp2_with fail
            go_ret2
            exact ⟨by rw [HW.out, why_stop HTI.out HF.out (wT4 HN.out.symm (by omega)) (by decide)]; rfl, HB.out⟩
           ·have c1' : decide (t.f3 > t.f2) = false := by simp; omega
            by_cases c2 : t.f2 > t.f1
            ·go_wp2_with fail
             go_ret2
             exact ⟨by rw [HW.out, why_stop HTI.out HF.out (wT4 HN.out.symm (by omega)) (by decide)]; rfl, HB.out⟩
            ·have c2' : decide (t.f2 > t.f1) = false := by simp; omega
             by_cases c3 : t.f1 > 1048576
             ·go_wp2_with fail
              go_ret2
              exact ⟨by rw [HW.out, why_stop HTI.out HF.out (wT4 HN.out.symm (by omega)) (by decide)]; rfl, HB.out⟩
             ·have c3' : decide (t.f1 > 1048576) = false := by simp; omega
              by_cases c4 : t.f6 < 0
              ·go_wp2_with fail
               go_ret2
               exact ⟨by rw [HW.out, why_stop HTI.out HF.out (wT4 HN.out.symm (by omega)) (by decide)]; rfl, HB.out⟩
              ·have c4' : decide (t.f6 < 0) = false := by simp; omega
               by_cases c5 : t.f6 > 1000
               ·go_wp2_with fail
                go_ret2
                exact ⟨by rw [HW.out, why_stop HTI.out HF.out (wT4 HN.out.symm (by omega)) (by decide)]; rfl, HB.out⟩
               ·have c5' : decide (t.f6 > 1000) = false := by simp; omega
                have HTM : Aside0 (1 ≤ t.f3 ∧ t.f3 ≤ t.f2 ∧ t.f2 ≤ t.f1 ∧ t.f1 ≤ 1048576 ∧ 0 ≤ t.f6 ∧ t.f6 ≤ 1000) := ⟨by omega⟩
                cases mb with
                | false =>
                 go_wp2_with fail
                 go_ret2
                 exact ⟨by rw [HW.out, why_stop HTI.out HF.out (wT5 HN.out.symm HTM.out HM.out) (by decide)]; rfl, HB.out⟩
                | true =>
                 by_cases e5 : t.f7 < 1
                 ·go_wp2_with fail
                  go_ret2
                  exact ⟨by rw [HW.out, why_stop HTI.out HF.out (wT6 HN.out.symm HTM.out HM.out (by omega)) (by decide)]; rfl, HB.out⟩
                 ·have e5' : decide (t.f7 < 1) = false := by simp; omega
                  by_cases e6 : t.f7 > t.f8
                  ·go_wp2_with fail
                   go_ret2
                   exact ⟨by rw [HW.out, why_stop HTI.out HF.out (wT6 HN.out.symm HTM.out HM.out (by omega)) (by decide)]; rfl, HB.out⟩
                  ·have e6' : decide (t.f7 > t.f8) = false := by simp; omega
                   by_cases e7 : t.f8 > 64
                   ·go_wp2_with fail
                    go_ret2
                    exact ⟨by rw [HW.out, why_stop HTI.out HF.out (wT6 HN.out.symm HTM.out HM.out (by omega)) (by decide)]; rfl, HB.out⟩
                   ·have e7' : decide (t.f8 > 64) = false := by simp; omega
                    have HFM : Aside0 (1 ≤ t.f7 ∧ t.f7 ≤ t.f8 ∧ t.f8 ≤ 64) := ⟨by omega⟩
                    cases pk with
                    | true =>
                     go_wp2_with fail
                     go_ret2
                     exact ⟨by rw [HW.out, why_stop HTI.out HF.out (wT7 HN.out.symm HTM.out HM.out HFM.out HP.out.symm) (by decide)]; rfl, HB.out⟩
                    | false =>
                     have HF2 := Aside0.mk (why_on HTI.out HF.out (wT0 HN.out.symm HTM.out HM.out HFM.out HP.out.symm))
                     go_wp2_with fail
                     go_roundg (ts.length - (k + 1))
                     case measure => omega
                     case rel => exact ⟨k + 1, by first | rfl | simp, by omega, HF2, HB, HK⟩
    ·have hd : decide ((i : Int) < (ts.length : Int)) = false := by simp; omega
     have HE : Aside0 (whyFrom ts [] 0 = (0, -1)) := ⟨by rw [← HF.out, List.drop_of_length_le (by omega)]; rfl⟩
     go_wp2_with fail
     go_ret2
     exact ⟨by rw [HW.out, HE.out]; rfl, HB.out⟩
  ·have HW : Aside0 (whyS b ts = (2, -1)) := ⟨by
    unfold whyS
    rw [if_neg (by unfold inB; simp; omega), if_pos (by unfold inB; simp; omega)]⟩
   by_cases h1 : ts.length < 1
   ·have e1 : decide ((ts.length : Int) < 1) = true := by simp; omega
    go_enter Tryd.func24, Tryd.ntmps24
    go_wp2_with fail
    rw [← HW1.out]
    go_ret2
    exact ⟨by rw [HW.out]; rfl, HB1.out⟩
   ·have e1 : decide ((ts.length : Int) < 1) = false := by simp; omega
    have e2 : decide ((ts.length : Int) > 16) = true := by simp; omega
    go_enter Tryd.func24, Tryd.ntmps24
    go_wp2_with fail
    rw [← HW1.out]
    go_ret2
    exact ⟨by rw [HW.out]; rfl, HB1.out⟩
 ·have HW : Aside0 (whyS b ts = (1, -1)) := ⟨by
   unfold whyS
   rw [if_pos (by unfold inB; simp; omega)]⟩
  by_cases h1 : b < 1
  ·have e1 : decide (b < 1) = true := by simp; omega
   go_enter Tryd.func24, Tryd.ntmps24
   go_wp2_with fail
   rw [← HW1.out]
   go_ret2
   exact ⟨by rw [HW.out]; rfl, HB1.out⟩
  ·have e1 : decide (b < 1) = false := by simp; omega
   have e2 : decide (b > 1000) = true := by simp; omega
   go_enter Tryd.func24, Tryd.ntmps24
   go_wp2_with fail
   rw [← HW1.out]
   go_ret2
   exact ⟨by rw [HW.out]; rfl, HB1.out⟩
theorem pendulumref05_Why.calls (a0_0 : Int) (A0_1 : Option Addr) (c0_1 : Nat) (l0_1 : List TK) (r1 : Int) (r2 : Int) (w : World) (hr0_1 : Kd.C k26 w A0_1 l0_1.length l0_1) (hc0_1 : l0_1.length ≤ c0_1) (h : pendulumref05_Why.f a0_0 l0_1 = some (r1, r2)) :
  Calls Tryd.prog 24 #[.agg #[.int .i64 a0_0, .slice A0_1 l0_1.length c0_1]] w fun e w' => e = .returned (.tuple #[.int .i64 r1, .int .i64 r2]) ∧ Below w.heap.size w w' := by
 have h2 := Option.some.inj h
 have e1 : (whyS a0_0 l0_1).1 = r1 := by rw [h2]
 have e2 : (whyS a0_0 l0_1).2 = r2 := by rw [h2]
 rw [← e1, ← e2]
 exact refwhy_ask a0_0 A0_1 c0_1 l0_1 w hr0_1 hc0_1
end Go.Proofs.YtadfcdpalcgghaaDoor.Q
