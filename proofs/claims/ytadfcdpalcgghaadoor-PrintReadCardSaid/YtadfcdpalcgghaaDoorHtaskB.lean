-- What is asked of one task: the five questions, as the program answers them.
-- NEEDS pendulum/task.timed pendulum/task.moded pendulum/task.firm pendulum/index.Named
import Derived.Test.YtadfcdpalcgghaaDoorM0
import Derived.Test.YtadfcdpalcgghaaDoorQ2
namespace Go.Proofs.YtadfcdpalcgghaaDoor.Q
open Go.RowKit Go.Proofs.YtadfcdpalcgghaaDoorW.PrintWords Go.Proofs.YtadfcdpalcgghaaDoorW.PrintLast Go.Proofs.YtadfcdpalcgghaaDoorW.PrintMore
attribute [local go_sem] max2_int min2_int max_two min_two max_three min_three max_four min_four   -- for this text's walks alone
set_option linter.unusedVariables false
set_option linter.unusedSimpArgs false

set_option maxHeartbeats 1000000 in
set_option maxRecDepth 100000 in
theorem named_ask (t : TK) (A : Option Addr) (c : Nat) (xs : List TK) (W : World) (hxs : Kd.C k26 W A xs.length xs) (hc : xs.length ≤ c) (hlen : xs.length ≤ 1000000) :
  Calls Tryd.prog 56 #[tkV t, .slice A xs.length c] W fun e w' => e = .returned (.bool (tNamed t xs)) ∧ Below W.heap.size W w' := by
 have hb0 : Below W.heap.size W (W.alloc (.cells (tkC t) 26 (0, 0))) := below_alloc (Below.refl _ _) _
 have HB := Aside0.mk hb0
 have hbk : (W.alloc (.cells (tkC t) 26 (0, 0))).heap[W.heap.size]? = some (.cells (tkC t) 26 (0, 0)) := blk_new W _
 have HBK := Aside0.mk hbk
 have HC : ∀ w1, Below W.heap.size W w1 → w1.heap[W.heap.size]? = some (.cells (tkC t) 26 (0, 0)) → Calls Tryd.prog 63 #[.slice A xs.length c, .func (.func 64) #[] #[.pointer (some ⟨W.heap.size, 0, none⟩)]] w1 fun e w' => e = .returned (.bool (xs.any (fun x => x.f0.toList == t.f0.toList))) ∧ Below w1.heap.size w1 w' := fun w1 hb hk =>
  contains_any w1 A c xs _ (fun x => x.f0.toList == t.f0.toList) _ (fun args w => by go_simp; done) (Kd.C_below hxs hb) hc hlen (fun x W' hb' => named_same t x W.heap.size W' (blk_below hk hb'))
 have HCC := Aside0.mk HC
 clear hb0 hbk HC hxs
 obtain ⟨bn, hbn⟩ : ∃ bn, named t.f0 = bn := ⟨_, rfl⟩
 have HBN := Aside0.mk hbn
 clear hbn
 unfold tkV
 unfold tkC at *
 go_enter Tryd.func56, Tryd.ntmps56
 go_wp2_with fail
 refine (index_Named.calls t.f0 bn _ (by unfold index_Named.f; rw [HBN.out])).mono ?_
 rintro e wA ⟨rfl, hb⟩
 have HBA := Aside0.mk (below_step HB.out hb)
 have HKA := Aside0.mk (blk_below HBK.out hb)
 clear hb HB HBK
 cases bn with
 | false =>
  go_wp2_with fail
  go_ret
  exact ⟨by unfold tNamed; rw [HBN.out]; rfl, HBA.out⟩
 | true =>
  go_wp2_with fail
  refine (HCC.out wA HBA.out HKA.out).mono ?_
  rintro e wB ⟨rfl, hb⟩
  have HBB := Aside0.mk (below_step HBA.out hb)
  clear hb HBA HKA
  go_wp2_with fail
  go_ret
  exact ⟨by unfold tNamed; rw [HBN.out]; rfl, HBB.out⟩
set_option maxHeartbeats 1000000 in
set_option maxRecDepth 100000 in
theorem ranked_ask (t : TK) (A : Option Addr) (c : Nat) (xs : List TK) (W : World) (hxs : Kd.C k26 W A xs.length xs) (hc : xs.length ≤ c) (hlen : xs.length ≤ 1000000) :
  Calls Tryd.prog 60 #[tkV t, .slice A xs.length c] W fun e w' => e = .returned (.bool (tRanked t xs)) ∧ Below W.heap.size W w' := by
 have hb0 : Below W.heap.size W (W.alloc (.cells (tkC t) 26 (0, 0))) := below_alloc (Below.refl _ _) _
 have HB := Aside0.mk hb0
 have hbk : (W.alloc (.cells (tkC t) 26 (0, 0))).heap[W.heap.size]? = some (.cells (tkC t) 26 (0, 0)) := blk_new W _
 have HBK := Aside0.mk hbk
 have HC : ∀ w1, Below W.heap.size W w1 → w1.heap[W.heap.size]? = some (.cells (tkC t) 26 (0, 0)) → Calls Tryd.prog 63 #[.slice A xs.length c, .func (.func 65) #[] #[.pointer (some ⟨W.heap.size, 0, none⟩)]] w1 fun e w' => e = .returned (.bool (xs.any (fun x => x.f10 == t.f10))) ∧ Below w1.heap.size w1 w' := fun w1 hb hk =>
  contains_any w1 A c xs _ (fun x => x.f10 == t.f10) _ (fun args w => by go_simp; done) (Kd.C_below hxs hb) hc hlen (fun x W' hb' => ranked_same t x W.heap.size W' (blk_below hk hb'))
 have HCC := Aside0.mk HC
 clear hb0 hbk HC hxs
 obtain ⟨bn, hbn⟩ : ∃ bn, inB t.f10 0 255 = bn := ⟨_, rfl⟩
 have HBN := Aside0.mk hbn
 clear hbn
 unfold tkV
 unfold tkC at *
 go_enter Tryd.func60, Tryd.ntmps60
 go_wp2_with fail
 refine (task_in.calls t.f10 0 255 bn _ (by have := HBN.out; unfold inB at this; unfold task_in.f; by_cases h : t.f10 ≥ 0 <;> simp [h] at this ⊢ <;> exact this)).mono ?_
 rintro e wA ⟨rfl, hd⟩
 have hb := hd.below
 have HBA := Aside0.mk (below_step HB.out hb)
 have HKA := Aside0.mk (blk_below HBK.out hb)
 clear hb hd HB HBK
 cases bn with
 | false =>
  go_wp2_with fail
  go_ret
  exact ⟨by unfold tRanked; rw [HBN.out]; rfl, HBA.out⟩
 | true =>
  go_wp2_with fail
  refine (HCC.out wA HBA.out HKA.out).mono ?_
  rintro e wB ⟨rfl, hb⟩
  have HBB := Aside0.mk (below_step HBA.out hb)
  clear hb HBA HKA
  go_wp2_with fail
  go_ret
  exact ⟨by unfold tRanked; rw [HBN.out]; rfl, HBB.out⟩
theorem in_eq (a b c : Int) : task_in.f a b c = some (inB a b c) := by
 unfold task_in.f inB
 by_cases h : a ≥ b <;> simp [h]
theorem timed_ask (t : TK) (A : Option Addr) (c : Nat) (xs : List TK) (W : World) (hxs : Kd.C k26 W A xs.length xs) (hc : xs.length ≤ c) :
  Calls Tryd.prog 57 #[tkV t, .slice A xs.length c] W fun e w' => e = .returned (.bool (tTimed t)) ∧ Below W.heap.size W w' := by
 refine (task_timed.calls t.f0 t.f1 t.f2 t.f3 t.f4 t.f5 t.f6 t.f7 t.f8 t.f9 t.f10 A c xs (tTimed t) W hxs hc ?_).mono fun e w' ⟨he, hd⟩ => ⟨he, hd⟩
 unfold task_timed.f tTimed
 simp only [in_eq, Option.bind_some]
 cases inB t.f1 1 1048576 <;> cases inB t.f2 1 t.f1 <;> cases inB t.f3 1 t.f2 <;> simp
theorem moded_ask (t : TK) (A : Option Addr) (c : Nat) (xs : List TK) (W : World) (hxs : Kd.C k26 W A xs.length xs) (hc : xs.length ≤ c) :
  Calls Tryd.prog 58 #[tkV t, .slice A xs.length c] W fun e w' => e = .returned (.bool (tModed t)) ∧ Below W.heap.size W w' := by
 refine (task_moded.calls t.f0 t.f1 t.f2 t.f3 t.f4 t.f5 t.f6 t.f7 t.f8 t.f9 t.f10 A c xs (tModed t) W hxs hc ?_).mono fun e w' ⟨he, hd⟩ => ⟨he, hd⟩
 unfold task_moded.f tModed
 simp only [in_eq, Option.bind_some]
 by_cases h : t.f9 = 1
 ·simp only [if_pos h]
  cases inB t.f5 1 t.f3 <;> simp
 ·simp only [if_neg h]
  cases inB t.f9 2 3 <;> cases inB t.f4 1 t.f2 <;> simp
theorem firm_ask (t : TK) (A : Option Addr) (c : Nat) (xs : List TK) (W : World) (hxs : Kd.C k26 W A xs.length xs) (hc : xs.length ≤ c) :
  Calls Tryd.prog 59 #[tkV t, .slice A xs.length c] W fun e w' => e = .returned (.bool (tFirm t)) ∧ Below W.heap.size W w' := by
 refine (task_firm.calls t.f0 t.f1 t.f2 t.f3 t.f4 t.f5 t.f6 t.f7 t.f8 t.f9 t.f10 A c xs (tFirm t) W hxs hc ?_).mono fun e w' ⟨he, hd⟩ => ⟨he, hd⟩
 unfold task_firm.f tFirm
 simp only [in_eq, Option.bind_some]
 cases inB t.f8 1 64 <;> simp
end Go.Proofs.YtadfcdpalcgghaaDoor.Q
