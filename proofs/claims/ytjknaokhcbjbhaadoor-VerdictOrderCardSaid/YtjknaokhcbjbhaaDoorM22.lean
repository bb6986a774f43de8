-- Texts of this claim, put together: LfixJ, Q15, LfixT.
import Derived.Test.YtjknaokhcbjbhaaDoorM0
import Derived.Test.YtjknaokhcbjbhaaDoorM5
import Derived.Test.YtjknaokhcbjbhaaDoorQ13
import Derived.Test.YtjknaokhcbjbhaaDoorQ14
import Derived.Test.YtjknaokhcbjbhaaDoorHfixN
import Derived.Test.YtjknaokhcbjbhaaDoorM1
import Derived.Test.YtjknaokhcbjbhaaDoorQ20
-- What fix.Response, verdict.Judge and verdict.Same answer (no program in sight).
namespace Go.Proofs.YtjknaokhcbjbhaaDoor.Q
open Go.RowKit Go.Proofs.YtjknaokhcbjbhaaDoorW.PrintWords Go.Proofs.YtjknaokhcbjbhaaDoorW.PrintLast Go.Proofs.YtjknaokhcbjbhaaDoorW.PrintMore
attribute [local go_sem] max2_int min2_int max_two min_two max_three min_three max_four min_four   -- for this text's walks alone
set_option linter.unusedVariables false
set_option linter.unusedSimpArgs false

theorem RightS.dem {b : Int} {ts : List TK} (h : RightS b ts) : ∀ t ∈ ts, Dem t := by
 intro t ht
 obtain ⟨j, hj, rfl⟩ := List.getElem_of_mem ht
 have := whyT_zero.1 (h.each j hj)
 exact dem_of this.2.1 this.2.2.1
def tkA (ts : List TK) (i : Nat) : TK := rd_T42 ts (i : Int)
theorem tkA_get (ts : List TK) (i : Nat) (h : i < ts.length) : tkA ts i = ts[i] := by
 unfold tkA
 simp [rd_T42, List.getD_eq_getElem?_getD, List.getElem?_eq_getElem h]
theorem tkA_mem (ts : List TK) (i : Nat) (h : i < ts.length) : tkA ts i ∈ ts := by rw [tkA_get ts i h]; exact List.getElem_mem h
theorem tkA_key (ts : List TK) (i : Nat) (h : i < ts.length) : keyA ts i = (tkA ts i).f10 := by
 rw [tkA_get ts i h]
 unfold keyA
 simp [List.getD_eq_getElem?_getD, List.getElem?_eq_getElem h]
def respI (b : Int) (ts : List TK) (g : Int) (i : Nat) : Option Int := respR (nextF b ts (tkA ts i) g) (tkA ts i).f2 ((tkA ts i).f2 + 2).toNat 0
def resO : Option Int → Int × Bool
 | some r => (r, true)
 | none => (0, false)
theorem RightS.mono {b : Int} {ts : List TK} {g : Int} (h : RightS b ts) (hg : 1 ≤ g) (t : TK) (a c : Int) (h0 : 0 ≤ a) (h1 : a ≤ c) : nextF b ts t g a ≤ nextF b ts t g c :=
 next_mono h.b0 hg h0 h1 (fun t ht => ⟨by have := (h.dem t ht).T1; omega, by have := (h.dem t ht).whole; omega⟩)
theorem next_eval {b : Int} {ts : List TK} {g : Int} (h : RightS b ts) (hg1 : 1 ≤ g) (hg2 : g ≤ 1049576) (i : Nat) (hi : i < ts.length) (w : Int) (hw : 0 ≤ w) (hw2 : w ≤ 1048576) : fix_Next.f b ts (i : Int) g w = some (nextF b ts (tkA ts i) g w, true) := by
 unfold fix_Next.f
 rw [if_pos ⟨h.dem, ⟨h.b0, h.b1⟩, ⟨by omega, by omega, h.n1⟩, ⟨hg1, hg2⟩, hw, hw2⟩]
 rfl
theorem resp_loop {b : Int} {ts : List TK} {g : Int} (h : RightS b ts) (hg1 : 1 ≤ g) (hg2 : g ≤ 1049576) (i : Nat) (hi : i < ts.length) : ∀ (n k : Nat) (w : Int), 0 ≤ w → w ≤ (tkA ts i).f2 → w ≤ nextF b ts (tkA ts i) g w → (tkA ts i).f2 - w + 1 < n → 2 * n < k →
  fix_Response.l0 k (i : Int) g w b ts = (respG (nextF b ts (tkA ts i) g) (tkA ts i).f2 n w).map resO
 | 0, k, w, h0, h1, h2, h3, hk => by omega
 | n + 1, k, w, h0, h1, h2, h3, hk => by
  obtain ⟨k, rfl⟩ : ∃ j, k = j + 2 := ⟨k - 2, by omega⟩
  have hd := h.dem _ (tkA_mem ts i hi)
  have hT := hd.T2
  have hD := hd.D2
  have e2 : (rd_T42 ts (i : Int)).f2 = (tkA ts i).f2 := rfl
  rw [fix_Response.l0, next_eval h hg1 hg2 i hi w h0 (by omega)]
  simp only [Option.bind_some, if_true]
  rw [if_pos (by omega), if_pos (by omega), e2, fix_Response.j1]
  by_cases hg : nextF b ts (tkA ts i) g w > (tkA ts i).f2
  ·rw [decide_eq_true hg, if_pos rfl, respG, if_pos hg]; rfl
  ·rw [decide_eq_false hg, if_neg (by decide), respG, if_neg hg]
   by_cases hf : nextF b ts (tkA ts i) g w = w
   ·rw [if_pos hf, if_pos hf]; rfl
   ·rw [if_neg hf, if_neg hf]
    exact resp_loop h hg1 hg2 i hi n k _ (by omega) (by omega) (h.mono hg1 _ _ _ h0 h2) (by omega) (by omega)
theorem next_zero {b : Int} {ts : List TK} {g : Int} (h : RightS b ts) (hg1 : 1 ≤ g) (i : Nat) (hi : i < ts.length) : 0 ≤ nextF b ts (tkA ts i) g 0 := by
 have := next_bound h.b0 h.b1 hg1 (Int.le_refl 0) (by omega) h.dem (h.dem _ (tkA_mem ts i hi)) h.n1
 omega
theorem resp_eval {b : Int} {ts : List TK} {g : Int} (h : RightS b ts) (hg1 : 1 ≤ g) (hg2 : g ≤ 1049576) (i : Nat) (hi : i < ts.length) (k : Nat) (hk : 2 * ((tkA ts i).f2 + 2).toNat < k) : fix_Response.f k b ts (i : Int) g = some (resO (respI b ts g i)) := by
 have hd := (h.dem _ (tkA_mem ts i hi)).D1
 unfold fix_Response.f
 rw [resp_loop h hg1 hg2 i hi ((tkA ts i).f2 + 2).toNat k 0 (by omega) (by omega) (next_zero h hg1 i hi) (by omega) hk,
  resp_eq _ _ (fun a c => h.mono hg1 _ a c) _ 0 (Int.le_refl 0) (by omega) (next_zero h hg1 i hi) (by omega)]
 rfl
def ordI (ts : List TK) : List Nat := (ordN ts).map (fun i => i.val)
theorem ordN_len (ts : List TK) : (ordN ts).length = ts.length := by unfold ordN; simp
theorem ordI_len (ts : List TK) : (ordI ts).length = ts.length := by unfold ordI; rw [List.length_map, ordN_len]
theorem ordI_lt (ts : List TK) : ∀ i ∈ ordI ts, i < ts.length := by
 intro i hi
 obtain ⟨x, _, rfl⟩ := List.mem_map.1 hi
 exact x.isLt
theorem rd_ordI (ts : List TK) (j : Nat) (h : j < (ordI ts).length) : rd (ordF ts) (j : Int) = ((ordI ts)[j] : Int) := by
 have h2 : j < (ordN ts).length := by rw [ordI_len] at h; rw [ordN_len]; exact h
 have e : (ordI ts)[j] = (ordN ts)[j].val := List.getElem_map _
 rw [e]
 unfold ordF rd
 simp [List.getD_eq_getElem?_getD, List.getElem?_eq_getElem h2]
/-- The verdict. -/
def jdg (b : Int) (ts : List TK) (g : Int) : Bool × Int × List Int := judgeL (respI b ts g) (ordI ts) (List.replicate ts.length 0)
theorem judge_loop {b : Int} {ts : List TK} {g : Int} (h : RightS b ts) (hg1 : 1 ≤ g) (hg2 : g ≤ 1049576) (B : Nat) (hB : ∀ t ∈ ts, 2 * (t.f2 + 2).toNat < B) : ∀ (n j k : Nat) (R : List Int), j + n = ts.length → R.length = ts.length → n + B < k →
  verdict_Judge.l0 k g (ordF ts) (ts.length : Int) (j : Int) b ts true (-1) R = some ((judgeL (respI b ts g) ((ordI ts).drop j) R).1, (judgeL (respI b ts g) ((ordI ts).drop j) R).2.1, (judgeL (respI b ts g) ((ordI ts).drop j) R).2.2, 0)
 | 0, j, k, R, hj, hR, hk => by
  obtain ⟨k, rfl⟩ : ∃ i, k = i + 1 := ⟨k - 1, by omega⟩
  rw [verdict_Judge.l0, if_neg (by omega), List.drop_of_length_le (by rw [ordI_len]; omega)]
  rfl
 | n + 1, j, k, R, hj, hR, hk => by
  obtain ⟨k, rfl⟩ : ∃ i, k = i + 1 := ⟨k - 1, by omega⟩
  have hl := h.n1
  have hjl : j < (ordI ts).length := by rw [ordI_len]; omega
  have hfl : (ordF ts).length = ts.length := by unfold ordF; rw [List.length_map, ordN_len]
  rw [verdict_Judge.l0, if_pos (by omega), if_pos (by omega), if_pos (by rw [hfl]; omega), rd_ordI ts j hjl, List.drop_eq_getElem_cons hjl]
  obtain ⟨i, hi⟩ : ∃ i, (ordI ts)[j] = i := ⟨_, rfl⟩
  have hil : i < ts.length := by rw [← hi]; exact ordI_lt ts _ (List.getElem_mem hjl)
  rw [hi, resp_eval h hg1 hg2 i hil k (by have := hB _ (tkA_mem ts i hil); omega), judgeL]
  cases hr : respI b ts g i with
  | none => simp [resO]
  | some r =>
   have ih := judge_loop h hg1 hg2 B hB n (j + 1) k (R.set i r) (by omega) (by simpa using hR) (by omega)
   simp only [resO, Option.bind_some, if_true]
   rw [if_pos (by omega), if_pos (by omega), show wrap64 ((j : Int) + 1) = ((j + 1 : Nat) : Int) by rw [w64_ok (by omega) (by omega)]; omega, show ((i : Int)).toNat = i by omega, ih]
theorem judge_right {b : Int} {ts : List TK} {g : Int} (h : RightS b ts) (hg1 : 1 ≤ g) (hg2 : g ≤ 1049576) (B : Nat) (hB : ∀ t ∈ ts, 2 * (t.f2 + 2).toNat < B) (k : Nat) (hk : B + 20 < k) :
  verdict_Judge.f k b ts g = some ((jdg b ts g).1, (jdg b ts g).2.1, (jdg b ts g).2.2, 0) := by
 obtain ⟨k, rfl⟩ : ∃ i, k = i + 1 := ⟨k - 1, by omega⟩
 have hl := h.n1
 have hw := (rightS_iff b ts).2 h
 have e1 : task_Right.f b ts = some true := by
  show some ((whyS b ts).1 == 0) = some true
  rw [hw]; rfl
 have hfl : (ordF ts).length = ts.length := by unfold ordF; rw [List.length_map, ordN_len]
 have e2 : task_Order.f b ts = some (ordF ts) := by unfold task_Order.f; rw [if_pos ⟨h.nodup, by omega⟩]
 unfold verdict_Judge.f
 rw [e1]
 simp only [Option.bind_some, if_true]
 rw [if_neg (by omega), decide_eq_false (by omega), verdict_Judge.j0, if_neg (by decide), if_pos (by omega), if_pos (by omega), e2]
 simp only [Option.bind_some]
 rw [hfl]
 have := judge_loop h hg1 hg2 B hB ts.length 0 k (List.replicate ts.length 0) (by omega) (by simp) (by omega)
 rw [List.drop_zero] at this
 exact this
theorem judge_wrong {b : Int} {ts : List TK} {g : Int} (h : ¬ RightS b ts ∨ g < 1 ∨ g > 1049576) (k : Nat) (hk : 0 < k) : verdict_Judge.f k b ts g = some (false, 0, [], 1) := by
 obtain ⟨k, rfl⟩ : ∃ i, k = i + 1 := ⟨k - 1, by omega⟩
 have e1 : task_Right.f b ts = some ((whyS b ts).1 == 0) := rfl
 unfold verdict_Judge.f
 rw [e1]
 simp only [Option.bind_some]
 by_cases hr : RightS b ts
 ·rw [(rightS_iff b ts).2 hr, if_pos (show ((0 : Int) == 0) = true from rfl)]
  by_cases h1 : g < 1
  ·rw [if_pos h1, verdict_Judge.j0, if_pos rfl]
  ·rw [if_neg h1, decide_eq_true (by rcases h with h | h | h; exact absurd hr h; exact absurd h h1; exact h), verdict_Judge.j0, if_pos rfl]
 ·have : ((whyS b ts).1 == 0) = false := beq_eq_false_iff_ne.2 (fun e => hr ((rightS_iff b ts).1 e))
  rw [this, if_neg (by decide), verdict_Judge.j0, if_pos rfl]
theorem jdg_len (b : Int) (ts : List TK) (g : Int) : (jdg b ts g).2.2.length = ts.length := by unfold jdg; rw [judge_len]; simp
def vsame (a b : Bool × Int × List Int) : Bool := a.1 == b.1 && (a.2.1 == b.2.1 && a.2.2 == b.2.2)
theorem vsame_iff (a b : Bool × Int × List Int) : vsame a b = true ↔ a = b := by
 obtain ⟨a1, a2, a3⟩ := a
 obtain ⟨b1, b2, b3⟩ := b
 simp [vsame]
end Go.Proofs.YtjknaokhcbjbhaaDoor.Q

-- Written for this claim by the session's own driver (wip/qprint.py) over the kit's printer, out of the translation. Not trusted: Lean checks it.
namespace Go.Proofs.YtjknaokhcbjbhaaDoor.Q
open Go.RowKit Go.Proofs.YtjknaokhcbjbhaaDoorW.PrintWords Go.Proofs.YtjknaokhcbjbhaaDoorW.PrintLast Go.Proofs.YtjknaokhcbjbhaaDoorW.PrintMore
attribute [local go_sem] max2_int min2_int max_two min_two max_three min_three max_four min_four   -- for this text's walks alone
set_option linter.unusedVariables false
set_option linter.unusedSimpArgs false

/-! ### verdict_Same: function 15 -/
def verdict_Same.f (k : Nat) (a0_0 : Bool) (a0_1 : Int) (l0_2 : List Int) (a1_0 : Bool) (a1_1 : Int) (l1_2 : List Int) : Option (Bool) := if (a0_0 == a1_0) = true then (if a0_1 = a1_1 then ((slices_Equal_int_int.f k l0_2 l1_2).bind fun t151 => (some t151)) else (some false)) else (some false)
theorem verdict_Same.mono : ∀ a0 a1 a2 a3 a4 a5 k, LeO (verdict_Same.f k a0 a1 a2 a3 a4 a5) (verdict_Same.f (k + 1) a0 a1 a2 a3 a4 a5) := by
 intro a0 a1 a2 a3 a4 a5 k
 unfold verdict_Same.f
 repeat' first
   | (with_reducible exact slices_Equal_int_int.mono _ _ _)
   | (with_reducible exact LeO.refl _)
   | (with_reducible exact LeO.none _)
   | (with_reducible refine LeO.ite ?_ ?_)
   | (with_reducible refine LeO.bind ?_ (fun _ => ?_))
   | exact slices_Equal_int_int.mono _ _ _
   | exact LeO.none _
   | refine LeO.ite ?_ ?_
   | refine LeO.bind ?_ (fun _ => ?_)
set_option maxHeartbeats 8000000 in
set_option maxRecDepth 100000 in
theorem verdict_Same.calls (k : Nat) (a0_0 : Bool) (a0_1 : Int) (A0_2 : Option Addr) (c0_2 : Nat) (l0_2 : List Int) (a1_0 : Bool) (a1_1 : Int) (A1_2 : Option Addr) (c1_2 : Nat) (l1_2 : List Int) (r : Bool) (w : World) (hr0_2 : Kd.C (Kd.int .i64) w A0_2 l0_2.length l0_2) (hc0_2 : l0_2.length ≤ c0_2) (hr1_2 : Kd.C (Kd.int .i64) w A1_2 l1_2.length l1_2) (hc1_2 : l1_2.length ≤ c1_2) (h : verdict_Same.f k a0_0 a0_1 l0_2 a1_0 a1_1 l1_2 = some r) :
  Calls Tryd.prog 15 #[.agg #[.bool a0_0, .int .i64 a0_1, .slice A0_2 l0_2.length c0_2], .agg #[.bool a1_0, .int .i64 a1_1, .slice A1_2 l1_2.length c1_2]] w fun e w' => e = .returned (.bool r) ∧ Below w.heap.size w w' := by
 have hu29 := Tryd.underlying29
 have HR0_2 := Aside0.mk hr0_2
 have HC0_2 := Aside0.mk hc0_2
 clear hr0_2 hc0_2
 have HR1_2 := Aside0.mk hr1_2
 have HC1_2 := Aside0.mk hc1_2
 clear hr1_2 hc1_2
 have HB := Aside0.mk (Below.refl w.heap.size w)
 have H : (if (a0_0 == a1_0) = true then (if a0_1 = a1_1 then ((slices_Equal_int_int.f k l0_2 l1_2).bind fun t151 => (some t151)) else (some false)) else (some false)) = some r := h
 clear h
 by_cases c3 : (a0_0 == a1_0) = true
 ·rw [if_pos c3] at H
  have c3b0 : (a0_0 == a1_0) = true := c3
  (try (have c3b1 : decide (a0_0 = a1_0) = true := by simpa using c3))
  (try (have c3b2 : (a0_0 == a1_0) = true := by simpa using c3))
  clear c3
  by_cases c4 : a0_1 = a1_1
  ·rw [if_pos c4] at H
   have c4b0 : (a0_1 == a1_1) = true := beq_iff_eq.mpr c4
   have c4b1 : (a0_1 != a1_1) = false := bne_eq_false_iff_eq.mpr c4
   clear c4
   replace H := Option.bind_eq_some_iff.mp H
   obtain ⟨t151, A50, H⟩ := H
   replace H : (some t151) = some r := H
   have A5 := Aside0.mk A50
   clear A50
   obtain rfl := Option.some.inj H
   go_enter Tryd.func15, Tryd.ntmps15
   go_wp2_with (first | ((with_reducible refine gate_dst (N := 2) rfl ?_); refine box_event ?hg (N := 2) ?hd (cs := #[.bool a0_0, .int .i64 a0_1, .slice A0_2 l0_2.length c0_2]) (t := 29) ?hr ?_; (case hd => rfl); (case hg => rfl); (case hr => first | (go_simp; done) | (go_simp; rfl)); intro gb149 hg w6 hbox hb; have n0_ := Aside0.mk (below_step (by repeat (first | (with_reducible first | exact HB.out | apply below_alloc | apply pw_below_drewN | apply below_drew1) | exact HB.out)) hb); have n1_ := Aside0.mk (hbox); have n2_ := Aside0.mk ((by rw [hg]; exact (below_size (by repeat (first | (with_reducible first | exact HB.out | apply below_alloc | apply pw_below_drewN | apply below_drew1) | exact HB.out))) : w.heap.size ≤ gb149)); have n3_ := Aside0.mk ((by rw [hg]; exact (below_size (by repeat (first | (with_reducible first | exact HB.out | apply below_alloc | apply pw_below_drewN | apply below_drew1) | exact HB.out))) : w.heap.size ≤ gb149)); clear HB; have HB := n0_; have BK149 := n1_; have GW149 := n2_; have GE149 := n3_; clear n0_ n1_ n2_ n3_; clear hb hbox hg) | ((with_reducible refine gate_dst (N := 3) rfl ?_); refine box_event ?hg (N := 3) ?hd (cs := #[.bool a1_0, .int .i64 a1_1, .slice A1_2 l1_2.length c1_2]) (t := 29) ?hr ?_; (case hd => rfl); (case hg => rfl); (case hr => first | (go_simp; done) | (go_simp; rfl)); intro gb150 hg w7 hbox hb; have n0_ := Aside0.mk (blk_below (g := gb149) (o := .cells #[.bool a0_0, .int .i64 a0_1, .slice A0_2 l0_2.length c0_2] 29 (0, 0)) (by (with_reducible repeat (first | refine blk_drewN ?_ _ | refine blk_drew ?_ | refine blk_alloc ?_ _)); exact BK149.out) hb); have n1_ := Aside0.mk (below_step (by repeat (first | (with_reducible first | exact HB.out | apply below_alloc | apply pw_below_drewN | apply below_drew1 | refine below_set ?_ GE149.out) | exact HB.out)) hb); have n2_ := Aside0.mk (hbox); have n3_ := Aside0.mk ((by rw [hg]; exact (below_size (by repeat (first | (with_reducible first | exact HB.out | apply below_alloc | apply pw_below_drewN | apply below_drew1 | refine below_set ?_ GE149.out) | exact HB.out))) : w.heap.size ≤ gb150)); have n4_ := Aside0.mk ((by rw [hg]; exact (below_size (by repeat (first | (with_reducible first | exact HB.out | apply below_alloc | apply pw_below_drewN | apply below_drew1 | refine below_set ?_ GE149.out) | exact HB.out))) : w.heap.size ≤ gb150)); have n5_ := Aside0.mk ((by rw [hg]; exact Nat.ne_of_lt (blk_lt (g := gb149) (o := .cells #[.bool a0_0, .int .i64 a0_1, .slice A0_2 l0_2.length c0_2] 29 (0, 0)) (by (with_reducible repeat (first | refine blk_drewN ?_ _ | refine blk_drew ?_ | refine blk_alloc ?_ _)); exact BK149.out)) : gb149 ≠ gb150)); have n6_ := Aside0.mk ((by rw [hg]; exact Nat.ne_of_gt (blk_lt (g := gb149) (o := .cells #[.bool a0_0, .int .i64 a0_1, .slice A0_2 l0_2.length c0_2] 29 (0, 0)) (by (with_reducible repeat (first | refine blk_drewN ?_ _ | refine blk_drew ?_ | refine blk_alloc ?_ _)); exact BK149.out)) : gb150 ≠ gb149)); clear BK149; clear HB; have BK149 := n0_; have HB := n1_; have BK150 := n2_; have GW150 := n3_; have GE150 := n4_; have NB149_150 := n5_; have NB150_149 := n6_; clear n0_ n1_ n2_ n3_ n4_ n5_ n6_; clear hb hbox hg; have hnb8 := NB149_150.out; have hnc8 := NB150_149.out; have hcz9_0 : w7.cell? ⟨gb149, 0, none⟩ = some (.bool a0_0) := (blk_cell BK149.out 0).trans rfl; have hcz9_1 : w7.cell? ⟨gb149, 1, none⟩ = some (.int .i64 a0_1) := (blk_cell BK149.out 1).trans rfl; have hcz9_2 : w7.cell? ⟨gb149, 2, none⟩ = some (.slice A0_2 l0_2.length c0_2) := (blk_cell BK149.out 2).trans rfl; have hfz9_0 := blk_frozen BK149.out 0; have hfz9_1 := blk_frozen BK149.out 1; have hfz9_2 := blk_frozen BK149.out 2; have hcz10_0 : w7.cell? ⟨gb150, 0, none⟩ = some (.bool a1_0) := (blk_cell BK150.out 0).trans rfl; have hcz10_1 : w7.cell? ⟨gb150, 1, none⟩ = some (.int .i64 a1_1) := (blk_cell BK150.out 1).trans rfl; have hcz10_2 : w7.cell? ⟨gb150, 2, none⟩ = some (.slice A1_2 l1_2.length c1_2) := (blk_cell BK150.out 2).trans rfl; have hfz10_0 := blk_frozen BK150.out 0; have hfz10_1 := blk_frozen BK150.out 1; have hfz10_2 := blk_frozen BK150.out 2) | (go_at_call 24; (with_reducible refine (slices_Equal_int_int.calls k _ _ l0_2 _ _ l1_2 t151 _ ?side1 ?side2 ?side3 ?side4 A5.out).mono ?_); (case side1 => repeat (first | exact (Kd.C_below HR0_2.out HB.out) | (with_reducible refine Kd.C_alloc ?_ _) | (with_reducible refine Kd.C_drewN ?_ _) | (with_reducible refine Kd.C_drew ?_))); (case side2 => exact HC0_2.out); (case side3 => repeat (first | exact (Kd.C_below HR1_2.out HB.out) | (with_reducible refine Kd.C_alloc ?_ _) | (with_reducible refine Kd.C_drewN ?_ _) | (with_reducible refine Kd.C_drew ?_))); (case side4 => exact HC1_2.out); rintro e w' ⟨rfl, ⟨nd, rfl⟩⟩))
   go_ret
   exact ⟨by first | rfl | (simp [errW_none, errW_some] <;> rfl) | (simp [*, errW_none, errW_some] <;> rfl), by repeat (first | (with_reducible first | exact HB.out | apply below_alloc | apply pw_below_drewN | apply below_drew1 | refine below_set ?_ GE149.out | refine below_set ?_ GE150.out) | exact HB.out)⟩
  ·rw [if_neg c4] at H
   have c4b0 : (a0_1 == a1_1) = false := beq_eq_false_iff_ne.mpr c4
   have c4b1 : (a0_1 != a1_1) = true := bne_iff_ne.mpr c4
   obtain rfl := Option.some.inj H
   go_enter Tryd.func15, Tryd.ntmps15
   go_wp2_with (first | ((with_reducible refine gate_dst (N := 2) rfl ?_); refine box_event ?hg (N := 2) ?hd (cs := #[.bool a0_0, .int .i64 a0_1, .slice A0_2 l0_2.length c0_2]) (t := 29) ?hr ?_; (case hd => rfl); (case hg => rfl); (case hr => first | (go_simp; done) | (go_simp; rfl)); intro gb149 hg w11 hbox hb; have n0_ := Aside0.mk (below_step (by repeat (first | (with_reducible first | exact HB.out | apply below_alloc | apply pw_below_drewN | apply below_drew1) | exact HB.out)) hb); have n1_ := Aside0.mk (hbox); have n2_ := Aside0.mk ((by rw [hg]; exact (below_size (by repeat (first | (with_reducible first | exact HB.out | apply below_alloc | apply pw_below_drewN | apply below_drew1) | exact HB.out))) : w.heap.size ≤ gb149)); have n3_ := Aside0.mk ((by rw [hg]; exact (below_size (by repeat (first | (with_reducible first | exact HB.out | apply below_alloc | apply pw_below_drewN | apply below_drew1) | exact HB.out))) : w.heap.size ≤ gb149)); clear HB; have HB := n0_; have BK149 := n1_; have GW149 := n2_; have GE149 := n3_; clear n0_ n1_ n2_ n3_; clear hb hbox hg) | ((with_reducible refine gate_dst (N := 3) rfl ?_); refine box_event ?hg (N := 3) ?hd (cs := #[.bool a1_0, .int .i64 a1_1, .slice A1_2 l1_2.length c1_2]) (t := 29) ?hr ?_; (case hd => rfl); (case hg => rfl); (case hr => first | (go_simp; done) | (go_simp; rfl)); intro gb150 hg w12 hbox hb; have n0_ := Aside0.mk (blk_below (g := gb149) (o := .cells #[.bool a0_0, .int .i64 a0_1, .slice A0_2 l0_2.length c0_2] 29 (0, 0)) (by (with_reducible repeat (first | refine blk_drewN ?_ _ | refine blk_drew ?_ | refine blk_alloc ?_ _)); exact BK149.out) hb); have n1_ := Aside0.mk (below_step (by repeat (first | (with_reducible first | exact HB.out | apply below_alloc | apply pw_below_drewN | apply below_drew1 | refine below_set ?_ GE149.out) | exact HB.out)) hb); have n2_ := Aside0.mk (hbox); have n3_ := Aside0.mk ((by rw [hg]; exact (below_size (by repeat (first | (with_reducible first | exact HB.out | apply below_alloc | apply pw_below_drewN | apply below_drew1 | refine below_set ?_ GE149.out) | exact HB.out))) : w.heap.size ≤ gb150)); have n4_ := Aside0.mk ((by rw [hg]; exact (below_size (by repeat (first | (with_reducible first | exact HB.out | apply below_alloc | apply pw_below_drewN | apply below_drew1 | refine below_set ?_ GE149.out) | exact HB.out))) : w.heap.size ≤ gb150)); have n5_ := Aside0.mk ((by rw [hg]; exact Nat.ne_of_lt (blk_lt (g := gb149) (o := .cells #[.bool a0_0, .int .i64 a0_1, .slice A0_2 l0_2.length c0_2] 29 (0, 0)) (by (with_reducible repeat (first | refine blk_drewN ?_ _ | refine blk_drew ?_ | refine blk_alloc ?_ _)); exact BK149.out)) : gb149 ≠ gb150)); have n6_ := Aside0.mk ((by rw [hg]; exact Nat.ne_of_gt (blk_lt (g := gb149) (o := .cells #[.bool a0_0, .int .i64 a0_1, .slice A0_2 l0_2.length c0_2] 29 (0, 0)) (by (with_reducible repeat (first | refine blk_drewN ?_ _ | refine blk_drew ?_ | refine blk_alloc ?_ _)); exact BK149.out)) : gb150 ≠ gb149)); clear BK149; clear HB; have BK149 := n0_; have HB := n1_; have BK150 := n2_; have GW150 := n3_; have GE150 := n4_; have NB149_150 := n5_; have NB150_149 := n6_; clear n0_ n1_ n2_ n3_ n4_ n5_ n6_; clear hb hbox hg; have hnb13 := NB149_150.out; have hnc13 := NB150_149.out; have hcz14_0 : w12.cell? ⟨gb149, 0, none⟩ = some (.bool a0_0) := (blk_cell BK149.out 0).trans rfl; have hcz14_1 : w12.cell? ⟨gb149, 1, none⟩ = some (.int .i64 a0_1) := (blk_cell BK149.out 1).trans rfl; have hcz14_2 : w12.cell? ⟨gb149, 2, none⟩ = some (.slice A0_2 l0_2.length c0_2) := (blk_cell BK149.out 2).trans rfl; have hfz14_0 := blk_frozen BK149.out 0; have hfz14_1 := blk_frozen BK149.out 1; have hfz14_2 := blk_frozen BK149.out 2; have hcz15_0 : w12.cell? ⟨gb150, 0, none⟩ = some (.bool a1_0) := (blk_cell BK150.out 0).trans rfl; have hcz15_1 : w12.cell? ⟨gb150, 1, none⟩ = some (.int .i64 a1_1) := (blk_cell BK150.out 1).trans rfl; have hcz15_2 : w12.cell? ⟨gb150, 2, none⟩ = some (.slice A1_2 l1_2.length c1_2) := (blk_cell BK150.out 2).trans rfl; have hfz15_0 := blk_frozen BK150.out 0; have hfz15_1 := blk_frozen BK150.out 1; have hfz15_2 := blk_frozen BK150.out 2))
   go_ret
   exact ⟨by first | rfl | (simp [errW_none, errW_some] <;> rfl) | (simp [*, errW_none, errW_some] <;> rfl), by repeat (first | (with_reducible first | exact HB.out | apply below_alloc | apply pw_below_drewN | apply below_drew1 | refine below_set ?_ GE149.out | refine below_set ?_ GE150.out) | exact HB.out)⟩
 ·rw [if_neg c3] at H
  have c3b0 : (a0_0 == a1_0) = false := by simpa using c3
  (try (have c3b1 : decide (a0_0 = a1_0) = false := by simpa using c3))
  (try (have c3b2 : (a0_0 == a1_0) = false := by simpa using c3))
  (try (have c3b3 : ¬ (a0_0 = a1_0) := by simpa using c3))
  clear c3
  obtain rfl := Option.some.inj H
  go_enter Tryd.func15, Tryd.ntmps15
  go_wp2_with (first | ((with_reducible refine gate_dst (N := 2) rfl ?_); refine box_event ?hg (N := 2) ?hd (cs := #[.bool a0_0, .int .i64 a0_1, .slice A0_2 l0_2.length c0_2]) (t := 29) ?hr ?_; (case hd => rfl); (case hg => rfl); (case hr => first | (go_simp; done) | (go_simp; rfl)); intro gb149 hg w16 hbox hb; have n0_ := Aside0.mk (below_step (by repeat (first | (with_reducible first | exact HB.out | apply below_alloc | apply pw_below_drewN | apply below_drew1) | exact HB.out)) hb); have n1_ := Aside0.mk (hbox); have n2_ := Aside0.mk ((by rw [hg]; exact (below_size (by repeat (first | (with_reducible first | exact HB.out | apply below_alloc | apply pw_below_drewN | apply below_drew1) | exact HB.out))) : w.heap.size ≤ gb149)); have n3_ := Aside0.mk ((by rw [hg]; exact (below_size (by repeat (first | (with_reducible first | exact HB.out | apply below_alloc | apply pw_below_drewN | apply below_drew1) | exact HB.out))) : w.heap.size ≤ gb149)); clear HB; have HB := n0_; have BK149 := n1_; have GW149 := n2_; have GE149 := n3_; clear n0_ n1_ n2_ n3_; clear hb hbox hg) | ((with_reducible refine gate_dst (N := 3) rfl ?_); refine box_event ?hg (N := 3) ?hd (cs := #[.bool a1_0, .int .i64 a1_1, .slice A1_2 l1_2.length c1_2]) (t := 29) ?hr ?_; (case hd => rfl); (case hg => rfl); (case hr => first | (go_simp; done) | (go_simp; rfl)); intro gb150 hg w17 hbox hb; have n0_ := Aside0.mk (blk_below (g := gb149) (o := .cells #[.bool a0_0, .int .i64 a0_1, .slice A0_2 l0_2.length c0_2] 29 (0, 0)) (by (with_reducible repeat (first | refine blk_drewN ?_ _ | refine blk_drew ?_ | refine blk_alloc ?_ _)); exact BK149.out) hb); have n1_ := Aside0.mk (below_step (by repeat (first | (with_reducible first | exact HB.out | apply below_alloc | apply pw_below_drewN | apply below_drew1 | refine below_set ?_ GE149.out) | exact HB.out)) hb); have n2_ := Aside0.mk (hbox); have n3_ := Aside0.mk ((by rw [hg]; exact (below_size (by repeat (first | (with_reducible first | exact HB.out | apply below_alloc | apply pw_below_drewN | apply below_drew1 | refine below_set ?_ GE149.out) | exact HB.out))) : w.heap.size ≤ gb150)); have n4_ := Aside0.mk ((by rw [hg]; exact (below_size (by repeat (first | (with_reducible first | exact HB.out | apply below_alloc | apply pw_below_drewN | apply below_drew1 | refine below_set ?_ GE149.out) | exact HB.out))) : w.heap.size ≤ gb150)); have n5_ := Aside0.mk ((by rw [hg]; exact Nat.ne_of_lt (blk_lt (g := gb149) (o := .cells #[.bool a0_0, .int .i64 a0_1, .slice A0_2 l0_2.length c0_2] 29 (0, 0)) (by (with_reducible repeat (first | refine blk_drewN ?_ _ | refine blk_drew ?_ | refine blk_alloc ?_ _)); exact BK149.out)) : gb149 ≠ gb150)); have n6_ := Aside0.mk ((by rw [hg]; exact Nat.ne_of_gt (blk_lt (g := gb149) (o := .cells #[.bool a0_0, .int .i64 a0_1, .slice A0_2 l0_2.length c0_2] 29 (0, 0)) (by (with_reducible repeat (first | refine blk_drewN ?_ _ | refine blk_drew ?_ | refine blk_alloc ?_ _)); exact BK149.out)) : gb150 ≠ gb149)); clear BK149; clear HB; have BK149 := n0_; have HB := n1_; have BK150 := n2_; have GW150 := n3_; have GE150 := n4_; have NB149_150 := n5_; have NB150_149 := n6_; clear n0_ n1_ n2_ n3_ n4_ n5_ n6_; clear hb hbox hg; have hnb18 := NB149_150.out; have hnc18 := NB150_149.out; have hcz19_0 : w17.cell? ⟨gb149, 0, none⟩ = some (.bool a0_0) := (blk_cell BK149.out 0).trans rfl; have hcz19_1 : w17.cell? ⟨gb149, 1, none⟩ = some (.int .i64 a0_1) := (blk_cell BK149.out 1).trans rfl; have hcz19_2 : w17.cell? ⟨gb149, 2, none⟩ = some (.slice A0_2 l0_2.length c0_2) := (blk_cell BK149.out 2).trans rfl; have hfz19_0 := blk_frozen BK149.out 0; have hfz19_1 := blk_frozen BK149.out 1; have hfz19_2 := blk_frozen BK149.out 2; have hcz20_0 : w17.cell? ⟨gb150, 0, none⟩ = some (.bool a1_0) := (blk_cell BK150.out 0).trans rfl; have hcz20_1 : w17.cell? ⟨gb150, 1, none⟩ = some (.int .i64 a1_1) := (blk_cell BK150.out 1).trans rfl; have hcz20_2 : w17.cell? ⟨gb150, 2, none⟩ = some (.slice A1_2 l1_2.length c1_2) := (blk_cell BK150.out 2).trans rfl; have hfz20_0 := blk_frozen BK150.out 0; have hfz20_1 := blk_frozen BK150.out 1; have hfz20_2 := blk_frozen BK150.out 2))
  go_ret
  exact ⟨by first | rfl | (simp [errW_none, errW_some] <;> rfl) | (simp [*, errW_none, errW_some] <;> rfl), by repeat (first | (with_reducible first | exact HB.out | apply below_alloc | apply pw_below_drewN | apply below_drew1 | refine below_set ?_ GE149.out | refine below_set ?_ GE150.out) | exact HB.out)⟩

end Go.Proofs.YtjknaokhcbjbhaaDoor.Q

-- verdict.Same, the reference's Small; what awake asks of verdicts (no program in sight).
namespace Go.Proofs.YtjknaokhcbjbhaaDoor.Q
open Go.RowKit Go.Proofs.YtjknaokhcbjbhaaDoorW.PrintWords Go.Proofs.YtjknaokhcbjbhaaDoorW.PrintLast Go.Proofs.YtjknaokhcbjbhaaDoorW.PrintMore
attribute [local go_sem] max2_int min2_int max_two min_two max_three min_three max_four min_four   -- for this text's walks alone
set_option linter.unusedVariables false
set_option linter.unusedSimpArgs false

theorem eq_loop (x y : List Int) (he : x.length = y.length) (hl : x.length ≤ 1000000) : ∀ (n i k : Nat), i + n = x.length → n < k → slices_Equal_int_int.l0 k x y (x.length : Int) (i : Int) = some (x.drop i == y.drop i)
 | 0, i, k, h, hk => by
  obtain ⟨k, rfl⟩ : ∃ j, k = j + 1 := ⟨k - 1, by omega⟩
  rw [slices_Equal_int_int.l0, if_neg (by omega), List.drop_of_length_le (by omega), List.drop_of_length_le (by omega)]
  rfl
 | n + 1, i, k, h, hk => by
  obtain ⟨k, rfl⟩ : ∃ j, k = j + 1 := ⟨k - 1, by omega⟩
  have hx : i < x.length := by omega
  have hy : i < y.length := by omega
  have gx : rd x (i : Int) = x[i] := by simp [rd, List.getD_eq_getElem?_getD, List.getElem?_eq_getElem hx]
  have gy : rd y (i : Int) = y[i] := by simp [rd, List.getD_eq_getElem?_getD, List.getElem?_eq_getElem hy]
  rw [slices_Equal_int_int.l0, if_pos (by omega), if_pos (by omega), if_pos (by omega), if_pos (by omega), gx, gy, show x.drop i = x[i] :: x.drop (i + 1) from List.drop_eq_getElem_cons hx, show y.drop i = y[i] :: y.drop (i + 1) from List.drop_eq_getElem_cons hy]
  by_cases hxy : x[i] = y[i]
  ·rw [if_pos hxy, show wrap64 ((i : Int) + 1) = ((i + 1 : Nat) : Int) by rw [w64_ok (by omega) (by omega)]; omega, eq_loop x y he hl n (i + 1) k (by omega) (by omega), hxy, List.cons_beq_cons, beq_self_eq_true, Bool.true_and]
  ·rw [if_neg hxy, List.cons_beq_cons, beq_eq_false_iff_ne.2 hxy, Bool.false_and]
theorem same_eval (a b : Bool × Int × List Int) (ha : a.2.2.length ≤ 1000000) (k : Nat) (hk : a.2.2.length < k) : verdict_Same.f k a.1 a.2.1 a.2.2 b.1 b.2.1 b.2.2 = some (vsame a b) := by
 obtain ⟨a1, a2, a3⟩ := a
 obtain ⟨b1, b2, b3⟩ := b
 simp only at ha hk ⊢
 unfold verdict_Same.f vsame
 simp only
 by_cases h1 : (a1 == b1) = true
 ·rw [if_pos h1, h1]
  by_cases h2 : a2 = b2
  ·rw [if_pos h2]
   unfold slices_Equal_int_int.f
   by_cases h3 : a3.length = b3.length
   ·have := eq_loop a3 b3 h3 ha a3.length 0 k (by omega) hk
    rw [List.drop_zero, List.drop_zero] at this
    rw [if_pos (by omega), show (0 : Int) = ((0 : Nat) : Int) from rfl, this]
    simp [h2]
   ·rw [if_neg (by omega)]
    have : (a3 == b3) = false := beq_eq_false_iff_ne.2 (fun e => h3 (by rw [e]))
    simp [h2, this]
  ·rw [if_neg h2]
   simp [h2]
 ·rw [if_neg h1]
  have h1 : (a1 == b1) = false := by simpa using h1
  rw [h1]; rfl
def smallB (ts : List TK) : Bool := (ts.take 20).all (fun t => decide (t.f2 ≤ 3000) && decide (t.f0.size ≤ 60)) && decide (ts.length ≤ 16)
theorem small_loop (b : Int) (ts : List TK) : ∀ (n i k : Nat), i + n = 20 → 2 * n + 2 < k → pendulumref19_Small.l0 k (i : Int) b ts = some (((ts.take 20).drop i).all (fun t => decide (t.f2 ≤ 3000) && decide (t.f0.size ≤ 60)) && decide (ts.length ≤ 16))
 | n, i, k, h, hk => by
  obtain ⟨k, rfl⟩ : ∃ j, k = j + 2 := ⟨k - 2, by omega⟩
  have hd16 : decide ((ts.length : Int) ≤ 16) = decide (ts.length ≤ 16) := by rw [decide_eq_decide]; omega
  simp only [pendulumref19_Small.l0]
  by_cases hi : (i : Int) < (ts.length : Int)
  ·rw [if_pos hi]
   by_cases h20 : (i : Int) < 20
   ·rw [decide_eq_true h20]
    obtain ⟨n, rfl⟩ : ∃ m, n = m + 1 := ⟨n - 1, by omega⟩
    have hlt : i < ts.length := by omega
    have hg : rd_T42 ts (i : Int) = ts[i] := by simp [rd_T42, List.getD_eq_getElem?_getD, List.getElem?_eq_getElem hlt]
    have hlt2 : i < (ts.take 20).length := by rw [List.length_take]; omega
    have hg2 : (ts.take 20)[i] = ts[i] := List.getElem_take
    simp only [pendulumref19_Small.j1]
    rw [if_pos trivial, if_pos (by omega), if_pos hi, hg, List.drop_eq_getElem_cons hlt2, List.all_cons, hg2]
    by_cases hd : ts[i].f2 > 3000
    ·rw [if_pos hd, decide_eq_false (show ¬ ts[i].f2 ≤ 3000 by omega)]; rfl
    ·rw [if_neg hd, decide_eq_true (show ts[i].f2 ≤ 3000 by omega)]
     by_cases hs : ((ts[i].f0.size : Int)) > 60
     ·rw [if_pos hs, decide_eq_false (show ¬ ts[i].f0.size ≤ 60 by omega)]; rfl
     ·rw [if_neg hs, decide_eq_true (show ts[i].f0.size ≤ 60 by omega), w64_ok (by omega) (by omega), show ((i : Int) + 1) = ((i + 1 : Nat) : Int) by omega, small_loop b ts n (i + 1) k (by omega) (by omega), Bool.true_and, Bool.true_and]
   ·rw [decide_eq_false h20]
    simp only [pendulumref19_Small.j1]
    rw [if_neg Bool.false_ne_true, List.drop_of_length_le (by rw [List.length_take]; omega), hd16]; rfl
  ·rw [if_neg hi]
   simp only [pendulumref19_Small.j1]
   rw [if_neg Bool.false_ne_true, List.drop_of_length_le (by rw [List.length_take]; omega), hd16]; rfl
termination_by n _ _ _ _ => n
theorem small_eq (b : Int) (ts : List TK) (k : Nat) (hk : 60 ≤ k) : pendulumref19_Small.f k b ts = some (smallB ts) := by
 have h := small_loop b ts 20 0 k (by omega) (by omega)
 rw [List.drop_zero] at h
 exact h
theorem small_D {ts : List TK} (h : smallB ts = true) : ∀ t ∈ ts, t.f2 ≤ 3000 := by
 unfold smallB at h
 simp only [Bool.and_eq_true, decide_eq_true_eq] at h
 rw [List.take_of_length_le (by omega)] at h
 intro t ht
 have := List.all_eq_true.1 h.1 t ht
 simp only [Bool.and_eq_true, decide_eq_true_eq] at this
 exact this.1
theorem small_B {ts : List TK} (h : smallB ts = true) : (∀ t ∈ ts, 2 * (t.f2 + 2).toNat < 6100) ∧ ∀ t ∈ ts, (t.f2 + 2).toNat + 20 < 6100 :=
 ⟨fun t ht => by have := small_D h t ht; omega, fun t ht => by have := small_D h t ht; omega⟩
def ts0 : List TK := [⟨⟨#[97]⟩, 20, 20, 3, 0, 3, 0, 1, 1, 1, 1⟩]
theorem ts0_right : RightS 1 ts0 := (rightS_iff 1 ts0).1 (by kernel_rfl)
theorem ord0 : ordI ts0 = [0] := by
 unfold ordI ordN ts0
 simp [List.finRange, List.ofFn, Fin.foldr, Fin.foldr.loop]
theorem jdg0 : jdg 1 ts0 1000 = (true, -1, [6]) := by
 unfold jdg
 rw [ord0]
 have : respI 1 ts0 1000 0 = some 6 := by kernel_rfl
 rw [judgeL, this]
 rfl
theorem jdg1 : jdg 1 ts0 1 = (false, 0, [0]) := by
 unfold jdg
 rw [ord0]
 have : respI 1 ts0 1 0 = none := by kernel_rfl
 rw [judgeL, this]
 rfl
end Go.Proofs.YtjknaokhcbjbhaaDoor.Q
