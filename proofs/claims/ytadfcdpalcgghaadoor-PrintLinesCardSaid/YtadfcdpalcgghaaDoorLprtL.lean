-- PrintLines: the plain law, told of its walk.
-- NEEDS pendulum/pendulumlaw07.PrintLines
-- PLAIN
import Derived.Test.YtadfcdpalcgghaaDoorM0
import Derived.Test.YtadfcdpalcgghaaDoorQ18
import Derived.Test.YtadfcdpalcgghaaDoorHprtC
import Derived.Test.YtadfcdpalcgghaaDoorM14
import Derived.Test.YtadfcdpalcgghaaDoorM12
import Derived.Test.YtadfcdpalcgghaaDoorLprtS
namespace Go.Proofs.YtadfcdpalcgghaaDoor.Q
open Go.RowKit Go.Proofs.YtadfcdpalcgghaaDoorW.PrintWords Go.Proofs.YtadfcdpalcgghaaDoorW.PrintLast Go.Proofs.YtadfcdpalcgghaaDoorW.PrintMore
attribute [local go_sem] max2_int min2_int max_two min_two max_three min_three max_four min_four   -- for this text's walks alone
set_option linter.unusedVariables false
set_option linter.unusedSimpArgs false

theorem bt_list (l : List UInt8) (i : Nat) (h : i < l.length) : bt ⟨l.toArray⟩ (i : Int) = (l[i].toNat : Int) := by
 unfold bt
 have hz : i < (⟨l.toArray⟩ : ByteArray).size := by rw [ba_size]; exact h
 simp only [Int.toNat_natCast]
 rw [dif_pos hz]
 rfl
theorem text_len (b : Int) (ts : List TK) (hb : intI b) (hts : ∀ t ∈ ts, intT t ∧ t.f0.size ≤ 1000000) (hl : ts.length ≤ 50) : (textB b ts).length ≤ 100000000 := by
 have h1 := linesB_len ts hts
 have h2 := numsB_len [b] (fun n hn => by have e : n = b := (by simpa using hn); rw [e]; exact hb)
 have h3 : wBurstB.data.toList.length = 5 := rfl
 simp only [List.length_cons, List.length_nil] at h2
 unfold textB
 simp only [List.length_append, List.length_cons, List.length_nil, h3]
 omega
set_option maxHeartbeats 4000000 in
theorem lines_loop (s : ByteArray) (l : List UInt8) (hz : s.size = l.length) (hbt : ∀ (i : Nat) (h : i < l.length), bt s (i : Int) = (l[i].toNat : Int)) (b : Int) (ts : List TK) (hs : l.length ≤ 100000000) (hsp : okSp 0 l = true) (he : ends l = ts.length + 1) (hl : ts.length ≤ 1000) :
  ∀ (n i c k : Nat), i + n = l.length → n + ts.length + 10 < k → c + ends (l.drop i) = ts.length + 1 → pendulumlaw07_PrintLines.l0 k s 0 (c : Int) (i : Int) b ts b ts = some true
 | 0, i, c, k, h, hk, hc => by
  obtain ⟨k, rfl⟩ : ∃ j, k = j + 1 := ⟨k - 1, by omega⟩
  rw [List.drop_of_length_le (by omega)] at hc
  have hc2 : c = ts.length + 1 := hc
  rw [pendulumlaw07_PrintLines.l0, if_neg (by omega), if_pos rfl, if_pos (by rw [IntWalk.wrap64_in _ (by omega)]; omega), same_eq b ts b ts (by omega) (by omega) k (by omega), sameB_self]
  rfl
 | n + 1, i, c, k, h, hk, hc => by
  obtain ⟨k, rfl⟩ : ∃ j, k = j + 1 := ⟨k - 1, by omega⟩
  have hlt : i < l.length := by omega
  have hb := hbt i hlt
  have hw1 : wrap64 ((i : Int) + 1) = ((i + 1 : Nat) : Int) := by rw [IntWalk.wrap64_in _ (by omega)]; omega
  have HW1 := Aside0.mk hw1
  clear hw1
  have hd : ends (l.drop i) = ends (l.drop (i + 1)) + (if l[i] == 10 then 1 else 0) := by
   rw [List.drop_eq_getElem_cons hlt]; unfold ends; rw [List.countP_cons]
  have HD := Aside0.mk hd
  clear hd
  have hcc : c ≤ ts.length + 1 := by omega
  rw [pendulumlaw07_PrintLines.l0, if_pos (by omega), if_pos (by omega)]
  by_cases h10 : bt s (i : Int) = 10
  ·have e10 : l[i] = 10 := by
    have : l[i].toNat = 10 := by omega
    exact UInt8.toNat_inj.1 this
   have hw2 : wrap64 ((c : Int) + 1) = ((c + 1 : Nat) : Int) := by rw [IntWalk.wrap64_in _ (by omega)]; omega
   have HW2 := Aside0.mk hw2
   clear hw2
   rw [if_pos h10, if_neg (by rw [h10]; decide), HW1.out, HW2.out]
   refine lines_loop s l hz hbt b ts hs hsp he hl n (i + 1) (c + 1) k (by omega) (by omega) ?_
   have hd := HD.out
   rw [e10] at hd
   simp at hd
   omega
  ·have n10 : (l[i] == 10) = false := beq_eq_false_iff_ne.2 (fun e => h10 (by rw [hb, e]; rfl))
   have hrec := lines_loop s l hz hbt b ts hs hsp he hl n (i + 1) c k (by omega) (by omega) (by have hd := HD.out; rw [n10] at hd; simp at hd; omega)
   rw [if_neg h10]
   by_cases h32 : bt s (i : Int) = 32
   ·rw [if_pos h32]
    by_cases hi : (i : Int) > 0
    ·obtain ⟨j, rfl⟩ : ∃ j, i = j + 1 := ⟨i - 1, by omega⟩
     have e32 : l[j + 1] = 32 := by
      have : l[j + 1].toNat = 32 := by omega
      exact UInt8.toNat_inj.1 this
     have hp := okSp_at l 0 hsp j hlt e32
     have hw3 : wrap64 (((j + 1 : Nat) : Int) - 1) = ((j : Nat) : Int) := by rw [IntWalk.wrap64_in _ (by omega)]; omega
     have HW3 := Aside0.mk hw3
     clear hw3
     have hbj := hbt j (by omega)
     have q1 : ¬ bt s (j : Int) = 32 := fun e => hp.1 (UInt8.toNat_inj.1 (by show l[j].toNat = 32; omega))
     have q2 : ¬ bt s (j : Int) = 10 := fun e => hp.2 (UInt8.toNat_inj.1 (by show l[j].toNat = 10; omega))
     rw [if_pos hi, HW3.out, if_pos (by omega), if_pos (by omega), if_neg q1, if_neg q2, HW1.out]
     exact hrec
    ·rw [if_neg hi, HW1.out]
     exact hrec
   ·rw [if_neg h32, HW1.out]
    exact hrec
termination_by n _ _ _ _ => n
theorem PrintLines_pure (b : Int) (ts : List TK) (hb : intI b) (hts : ∀ t ∈ ts, intT t) : pendulumlaw07_PrintLines.f 100002000 b ts = some true := by
 obtain ⟨k, hk, hkk⟩ : ∃ k, 100002000 = k + 1 ∧ 100001900 ≤ k := ⟨100001999, rfl, by decide⟩
 rw [hk]
 unfold pendulumlaw07_PrintLines.f
 rw [awake07, Option.bind_some, if_pos rfl, few_eq b ts _ (by omega), Option.bind_some]
 cases hf : fewB ts with
 | false =>
  rw [if_neg (by decide), pendulumlaw07_PrintLines.j0, if_pos rfl, awake07]
  rfl
 | true =>
  rw [if_pos rfl, right_eq, Option.bind_some]
  have hl := fewB_len hf
  have hts2 : ∀ x ∈ ts, intT x ∧ x.f0.size ≤ 1000000 := fun x hx => ⟨hts x hx, by have := fewB_size hf x hx; omega⟩
  by_cases hr : (whyS b ts).1 = 0
  ·have hR := (rightS_iff b ts).1 hr
   have hn : ∀ t ∈ ts, named t.f0 = true := fun t ht => (hR.task ht).named
   have hz := text_len b ts hb hts2 (by omega)
   rw [show (!((whyS b ts).1 == 0)) = false by rw [hr]; rfl, pendulumlaw07_PrintLines.j0, if_neg (by decide), Option.bind_some, if_pos (by simp; omega), print_set_right b ts hb hts2 (by omega) hr, Option.bind_some, List.nil_append]
   have he := ends_text b ts hn
   exact lines_loop ⟨(textB b ts).toArray⟩ (textB b ts) (ba_size _) (bt_list _) b ts hz (okSp_text b ts 0 hn) he (by omega) (textB b ts).length 0 0 k (by omega) (by omega) (by rw [List.drop_zero]; omega)
  ·rw [show (!((whyS b ts).1 == 0)) = true by simpa using hr, pendulumlaw07_PrintLines.j0, if_pos rfl, awake07]
   rfl
theorem PrintLines_law (b0 : Int) (A0 : Option Addr) (c0 : Nat) (ts0 : List TK) (W : World) (hC0 : Kd.C k26 W A0 ts0.length ts0) (hc0 : ts0.length ≤ c0) (hok0 : ∀ t ∈ ts0, okTask t) (hb0 : (Lit.int .i64 b0).wf = true) (htab : TabS W.heap.size W) :
  Calls Tryd.prog 4 #[.agg #[.int .i64 b0, .slice A0 ts0.length c0]] W fun e w' => e = .returned (.bool true) ∧ Below W.heap.size W w' :=
 pendulumlaw07_PrintLines.calls 100002000 b0 A0 c0 ts0 true W hC0 hc0 (PrintLines_pure b0 ts0 (intI_of hb0) (fun t ht => intT_of (hok0 t ht))) rfl htab
end Go.Proofs.YtadfcdpalcgghaaDoor.Q
