-- VerdictOrder: the plain law, told of its walk.
-- NEEDS pendulum/pendulumlaw20.VerdictOrder
-- PLAIN
import Derived.Test.YtjknaokhcbjbhaaDoorM0
import Derived.Test.YtjknaokhcbjbhaaDoorQ29
import Derived.Test.YtjknaokhcbjbhaaDoorQ32
import Derived.Test.YtjknaokhcbjbhaaDoorHlawK
import Derived.Test.YtjknaokhcbjbhaaDoorM22
import Derived.Test.YtjknaokhcbjbhaaDoorLfixW
import Derived.Test.YtjknaokhcbjbhaaDoorLsetS
namespace Go.Proofs.YtjknaokhcbjbhaaDoor.Q
open Go.RowKit Go.Proofs.YtjknaokhcbjbhaaDoorW.PrintWords Go.Proofs.YtjknaokhcbjbhaaDoorW.PrintLast Go.Proofs.YtjknaokhcbjbhaaDoorW.PrintMore
attribute [local go_sem] max2_int min2_int max_two min_two max_three min_three max_four min_four   -- for this text's walks alone
set_option linter.unusedVariables false
set_option linter.unusedSimpArgs false

theorem gap_evalO {a : Int} (h0 : 0 ≤ a) (h1 : a ≤ 4294967295) : pendulumlaw20_gap.f a = some (gapN a) := by
 unfold pendulumlaw20_gap.f gapN
 rw [w64_ok (x := a) (by omega) (by omega), Int.tmod_eq_emod_of_nonneg h0, w64_ok (by omega) (by omega)]
def rotL (q : Nat) (ts : List TK) : List TK := ts.drop q ++ ts.take q
def qq (n q i : Nat) : Nat := (i + q) % n
theorem rot_len (q : Nat) (ts : List TK) (hq : q ≤ ts.length) : (rotL q ts).length = ts.length := by unfold rotL; rw [List.length_append, List.length_drop, List.length_take]; omega
theorem qq_lt {n q i : Nat} (hn : 0 < n) : qq n q i < n := Nat.mod_lt _ hn
theorem qq_cases {n q i : Nat} (hq : q < n) (hi : i < n) : (i + q < n ∧ qq n q i = i + q) ∨ (n ≤ i + q ∧ qq n q i = i + q - n) := by
 unfold qq
 rcases Nat.lt_or_ge (i + q) n with h | h
 ·exact .inl ⟨h, Nat.mod_eq_of_lt h⟩
 ·refine .inr ⟨h, ?_⟩
  rw [Nat.mod_eq_sub_mod h, Nat.mod_eq_of_lt (by omega)]
theorem qq_inj {n q i j : Nat} (hq : q < n) (hi : i < n) (hj : j < n) (h : qq n q i = qq n q j) : i = j := by
 rcases qq_cases hq hi with ⟨h1, h2⟩ | ⟨h1, h2⟩ <;> rcases qq_cases hq hj with ⟨h3, h4⟩ | ⟨h3, h4⟩ <;> omega
theorem rot_get (q : Nat) (ts : List TK) (hq : q < ts.length) (i : Nat) (hi : i < ts.length) : (rotL q ts)[i]'(by rw [rot_len q ts (by omega)]; exact hi) = ts[qq ts.length q i]'(qq_lt (by omega)) := by
 apply Option.some.inj
 rw [← List.getElem?_eq_getElem, ← List.getElem?_eq_getElem]
 unfold rotL
 rcases qq_cases hq hi with ⟨h1, h2⟩ | ⟨h1, h2⟩
 ·rw [h2, List.getElem?_append_left (by rw [List.length_drop]; omega), List.getElem?_drop, Nat.add_comm]
 ·rw [h2, List.getElem?_append_right (by rw [List.length_drop]; omega), List.length_drop, List.getElem?_take, if_pos (by omega)]
  congr 1
  omega
theorem rot_right {b : Int} {ts : List TK} (h : RightS b ts) (q : Nat) (hq : q < ts.length) : RightS b (rotL q ts) := by
 have hl := rot_len q ts (by omega)
 refine RightS.mk' h.b0 h.b1 (by rw [hl]; exact h.n0) (by rw [hl]; exact h.n1) ?_ ?_
 ·intro t ht
  refine h.task ?_
  unfold rotL at ht
  rcases List.mem_append.1 ht with e | e
  ·exact List.mem_of_mem_drop e
  ·exact List.mem_of_mem_take e
 ·intro i j hi hj hij
  rw [hl] at hi hj
  rw [rot_get q ts hq i hi, rot_get q ts hq j hj]
  exact h.apart _ _ _ _ (fun e => by have := qq_inj hq hi hj e; omega)
theorem rot_resp {b : Int} {ts : List TK} (q : Nat) (hq : q < ts.length) (g : Int) (i : Nat) (hi : i < ts.length) : respI b (rotL q ts) g i = respI b ts g (qq ts.length q i) := by
 have hl := rot_len q ts (by omega)
 have hp : (rotL q ts).Perm ts := by
  unfold rotL
  refine (List.perm_append_comm).trans ?_
  rw [List.take_append_drop]
 unfold respI
 rw [tkA_get (rotL q ts) i (by rw [hl]; exact hi), tkA_get ts _ (qq_lt (by omega)), rot_get q ts hq i hi]
 congr 1
 funext w
 exact next_perm b hp _ g w
theorem jdg_turn {b : Int} {ts : List TK} (h : RightS b ts) (q : Nat) (hq : q < ts.length) (g : Int) :
  (jdg b (rotL q ts) g).1 = (jdg b ts g).1 ∧ (∀ i, i < ts.length → (jdg b (rotL q ts) g).2.2.getD i 0 = (jdg b ts g).2.2.getD (qq ts.length q i) 0) ∧ ((jdg b (rotL q ts) g).1 = false → ∃ i, i < ts.length ∧ (jdg b (rotL q ts) g).2.1 = (i : Int) ∧ (jdg b ts g).2.1 = (qq ts.length q i : Int)) := by
 have hl := rot_len q ts (by omega)
 have hr := rot_right h q hq
 have hm := ordI_map ts (rotL q ts) (qq ts.length q) h.nodup hr.nodup (fun i hi => by
  rw [hl] at hi
  refine ⟨qq_lt (by omega), ?_⟩
  rw [tkA_key _ i (by rw [hl]; exact hi), tkA_key ts _ (qq_lt (by omega)), tkA_get _ i (by rw [hl]; exact hi), tkA_get ts _ (qq_lt (by omega)), rot_get q ts hq i hi]) (fun x hx => by
  rcases Nat.lt_or_ge x q with hlt | hge
  ·refine ⟨x + ts.length - q, by rw [hl]; omega, ?_⟩
   rcases qq_cases (n := ts.length) hq (show x + ts.length - q < ts.length by omega) with ⟨h1, h2⟩ | ⟨h1, h2⟩ <;> omega
  ·refine ⟨x - q, by rw [hl]; omega, ?_⟩
   rcases qq_cases (n := ts.length) hq (show x - q < ts.length by omega) with ⟨h1, h2⟩ | ⟨h1, h2⟩ <;> omega)
 have ht := judge_turn (respI b (rotL q ts) g) (respI b ts g) (qq ts.length q) ts.length (fun i j hi hj e => qq_inj hq hi hj e) (fun i _ => qq_lt (by omega)) (ordI (rotL q ts)) (List.replicate ts.length 0) (List.replicate ts.length 0) (fun i hi => by have := ordI_lt _ i hi; rw [hl] at this; exact this) (fun i hi => rot_resp q hq g i hi) (by simp) (by simp) (fun i hi => by
  have h2 : qq ts.length q i < ts.length := qq_lt (by omega)
  simp [List.getD_eq_getElem?_getD, List.getElem?_replicate, hi, h2])
 rw [hm] at ht
 unfold jdg
 rw [hl]
 exact ht
theorem order_l0 {b : Int} {ts cs : List TK} (n q : Nat) (hq : q < n) (hn : n ≤ 16) (hts : ts.length = n) (hcs : cs.length = n) (ok : Bool) (late late' : Int) (R R' : List Int) (hR : R.length = n) (hR' : R'.length = n) (hv : ∀ i, i < n → R'.getD i 0 = R.getD (qq n q i) 0)
  (hlate : ok = false → ∃ i, ∃ h1 : i < cs.length, ∃ h2 : qq n q i < ts.length, late' = (i : Int) ∧ late = (qq n q i : Int) ∧ cs[i] = ts[qq n q i]) : ∀ (m i k : Nat), i + m = n → m < k →
  pendulumlaw20_VerdictOrder.l0 k (n : Int) (q : Int) (i : Int) b ts b cs ok late R ok late' R' = some true
 | 0, i, k, hi, hk => by
  obtain ⟨k, rfl⟩ : ∃ j, k = j + 1 := ⟨k - 1, by omega⟩
  rw [pendulumlaw20_VerdictOrder.l0, if_neg (by omega)]
  cases hok : ok with
  | true => rw [if_pos rfl]
  | false =>
   obtain ⟨j, h1, h2, rfl, rfl, e⟩ := hlate hok
   have g1 : rd_T42 ts (qq n q j : Int) = ts[qq n q j] := by simp [rd_T42, List.getD_eq_getElem?_getD, List.getElem?_eq_getElem h2]
   have g2 : rd_T42 cs (j : Int) = cs[j] := by simp [rd_T42, List.getD_eq_getElem?_getD, List.getElem?_eq_getElem h1]
   rw [if_neg (by decide), if_pos (by omega), if_pos (by omega), if_pos (by omega), if_pos (by omega), if_pos (by omega), if_pos (by omega), g1, g2, e, beq_self_eq_true]
 | m + 1, i, k, hi, hk => by
  obtain ⟨k, rfl⟩ : ∃ j, k = j + 1 := ⟨k - 1, by omega⟩
  have e1 : Int.tmod (wrap64 ((i : Int) + (q : Int))) (n : Int) = (qq n q i : Int) := by
   rw [w64_ok (by omega) (by omega), Int.tmod_eq_emod_of_nonneg (by omega)]
   unfold qq
   rw [show ((i : Int) + (q : Int)) = ((i + q : Nat) : Int) by omega]
   rfl
  have hlt : qq n q i < n := qq_lt (by omega)
  have r1 : rd R' (i : Int) = R'.getD i 0 := by simp [rd]
  have r2 : rd R (qq n q i : Int) = R.getD (qq n q i) 0 := by simp [rd]
  rw [pendulumlaw20_VerdictOrder.l0, if_pos (by omega), if_pos (by omega), if_pos (by omega), if_neg (by omega), e1, if_pos (by omega), if_pos (by omega), r1, r2, if_pos (hv i (by omega)), show wrap64 ((i : Int) + 1) = ((i + 1 : Nat) : Int) by rw [w64_ok (by omega) (by omega)]; omega]
  exact order_l0 n q hq hn hts hcs ok late late' R R' hR hR' hv hlate m (i + 1) k (by omega) (by omega)
theorem VerdictOrder_pure (b : Int) (ts : List TK) (a m : Int) (h0 : 0 ≤ a) (h1 : a ≤ 4294967295) (hm0 : 0 ≤ m) (hm1 : m ≤ 255) : pendulumlaw20_VerdictOrder.f (20000 + 3) b ts a m = some true := by
 obtain ⟨k, hk, hkk⟩ : ∃ k, 20000 = k ∧ 20000 ≤ k := ⟨_, rfl, Nat.le_refl _⟩
 rw [hk]
 unfold pendulumlaw20_VerdictOrder.f
 unfold pendulumlaw20_awake.f
 simp only [Option.bind_some, if_true]
 rw [small_eq b ts _ (by omega)]
 simp only [Option.bind_some]
 cases hs : smallB ts with
 | false => rw [if_neg (by decide), pendulumlaw20_VerdictOrder.j0, if_pos rfl]; rfl
 | true =>
  rw [if_pos rfl, right_eq]
  simp only [Option.bind_some]
  by_cases hr : RightS b ts
  ·have hB := small_B hs
   have hg := gapN_range h0
   have hn0 := hr.n0
   have hn := hr.n1
   obtain ⟨q, hq⟩ : ∃ q : Nat, Int.tmod (wrap64 m) (ts.length : Int) = (q : Int) := ⟨(m % (ts.length : Int)).toNat, by
    rw [w64_ok (by omega) (by omega), Int.tmod_eq_emod_of_nonneg hm0]
    have := Int.emod_nonneg m (show (ts.length : Int) ≠ 0 by omega)
    omega⟩
   have hqn : q < ts.length := by
    have h2 := Int.emod_lt_of_pos m (show 0 < (ts.length : Int) by omega)
    rw [w64_ok (by omega) (by omega), Int.tmod_eq_emod_of_nonneg hm0] at hq
    omega
   have hl := rot_len q ts (by omega)
   have hrc := rot_right hr q hqn
   have hB2 : ∀ t ∈ rotL q ts, 2 * (t.f2 + 2).toNat < 6100 := by
    intro t ht
    refine hB.1 t ?_
    unfold rotL at ht
    rcases List.mem_append.1 ht with e | e
    ·exact List.mem_of_mem_drop e
    ·exact List.mem_of_mem_take e
   obtain ⟨t1, t2, t3⟩ := jdg_turn hr q hqn (gapN a)
   have j1 := jdg_len b ts (gapN a)
   have j2 := jdg_len b (rotL q ts) (gapN a)
   rw [(rightS_iff b ts).2 hr, show (!((0 : Int) == 0)) = false from rfl, pendulumlaw20_VerdictOrder.j0, if_neg (by decide), if_neg (by omega), hq]
   simp only [Option.bind_some, List.nil_append, List.length_nil, Nat.zero_add, show ((q : Int)).toNat = q by omega]
   rw [if_pos (by omega), if_pos (by omega), if_pos (by rw [List.length_drop]; omega), if_pos (by rw [List.length_drop, List.length_take]; omega), gap_evalO h0 h1]
   simp only [Option.bind_some]
   rw [judge_right hr hg.1 hg.2 6100 hB.1 _ (by omega), show ts.drop q ++ ts.take q = rotL q ts from rfl]
   simp only [Option.bind_some]
   rw [judge_right hrc hg.1 hg.2 6100 hB2 _ (by omega)]
   simp only [Option.bind_some, if_true]
   rw [t1, j1, j2, hl]
   rw [if_neg (by simp), if_pos rfl, show ((ts.length : Int) != (ts.length : Int)) = false by simp, pendulumlaw20_VerdictOrder.j1, if_neg (by decide)]
   rw [show (0 : Int) = ((0 : Nat) : Int) from rfl]
   exact order_l0 ts.length q hqn hn rfl hl _ _ _ _ _ j1 (by rw [j2, hl]) t2 (fun hok => by
    obtain ⟨i, hi, e1, e2⟩ := t3 (by rw [t1]; exact hok)
    exact ⟨i, by rw [hl]; exact hi, qq_lt (by omega), e1, e2, rot_get q ts hqn i hi⟩) ts.length 0 _ (by omega) (by omega)
  ·have hn : ((whyS b ts).1 == 0) = false := beq_eq_false_iff_ne.2 (fun e => hr ((rightS_iff b ts).1 e))
   rw [hn, show (!false) = true from rfl, pendulumlaw20_VerdictOrder.j0, if_pos rfl]; rfl
theorem VerdictOrder_law (b : Int) (A : Option Addr) (c : Nat) (ts : List TK) (a m : Int) (W : World) (hC : Kd.C k42 W A ts.length ts) (hc : ts.length ≤ c) (_ : ∀ t ∈ ts, okTask t) (_ : (Lit.int .i64 b).wf = true) (ha : (Lit.int .u32 a).wf = true) (hm : (Lit.int .u8 m).wf = true) :
  Calls Tryd.prog 6 #[.agg #[.int .i64 b, .slice A ts.length c], .int .u32 a, .int .u8 m] W fun e w' => e = .returned (.bool true) ∧ Below W.heap.size W w' :=
 pendulumlaw20_VerdictOrder.calls (20000 + 3) b A c ts a m true W hC hc (VerdictOrder_pure b ts a m (u32_range ha).1 (u32_range ha).2 (u8_range hm).1 (u8_range hm).2) rfl
end Go.Proofs.YtjknaokhcbjbhaaDoor.Q
