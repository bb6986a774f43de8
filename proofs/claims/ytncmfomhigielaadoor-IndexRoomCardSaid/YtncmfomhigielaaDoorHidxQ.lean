-- IndexRoom: walked by hand.
-- HAND pendulum/pendulumlaw03.IndexRoom rounds=0 making=1
-- NEEDS pendulum/index.Named
import Derived.Test.YtncmfomhigielaaDoorQ0
import Derived.Test.YtncmfomhigielaaDoorQ0
import Derived.Test.YtncmfomhigielaaDoorHidxC
import Derived.Test.YtncmfomhigielaaDoorHidxS
import Derived.Test.YtncmfomhigielaaDoorHidxW
import Derived.Test.YtncmfomhigielaaDoorLidxM
import Derived.Test.YtncmfomhigielaaDoorHidxW
import Derived.OpenShut
namespace Go.Proofs.YtncmfomhigielaaDoor.Q
open Go.RowKit Go.Proofs.YtncmfomhigielaaDoorW.PrintWords Go.Proofs.YtncmfomhigielaaDoorW.PrintLast Go.Proofs.YtncmfomhigielaaDoorW.PrintMore
attribute [local go_sem] max2_int min2_int max_two min_two max_three min_three max_four min_four   -- for this text's walks alone
set_option linter.unusedVariables false
set_option linter.unusedSimpArgs false

def pendulumlaw03_IndexRoom.f (a0 a1 : Int) : Option Bool := some true
def pendulumlaw03_IndexRoom.Pure : Prop := True
theorem C_lit_u8 (W : World) (l : List Int) (hl : l.length ≤ 1000) (cs : Array Value) (fr : Nat × Nat) (hcs : cs = (l.map (Value.int .u8)).toArray) : Kd.C (Kd.int .u8) (W.alloc (.cells cs 5 fr)) (some ⟨W.heap.size, 0, none⟩) l.length l := by
  refine Kd.C_of_reads (d := (0 : Int)) (h1 := fun _ => rfl) ⟨rfl, by omega, fun _ => ⟨_, rfl, fun j hj => ?_⟩⟩
  have hb : (W.alloc (.cells cs 5 fr)).heap[W.heap.size]? = some (.cells cs 5 fr) := blk_new _ _
  have e : (⟨W.heap.size, 0, none⟩ : Addr).add j = ⟨W.heap.size, j, none⟩ := by unfold Addr.add; split <;> simp_all
  rw [e, cell_of_row _ _ _ _ _ _ hb, hcs]
  simp [List.getElem?_eq_getElem hj, List.getD_eq_getElem?_getD]
/-- The names that the law puts. -/
def nmR (i : Nat) : ByteArray := strOfNums [97, 97 + ((i % 26 : Nat) : Int), 97 + ((i / 26 : Nat) : Int)]
def nsR (n : Nat) : List ByteArray := (List.range n).map nmR
theorem room_steps : ∀ n : Fin 60, ∀ i : Fin 60, i.val < n.val + 1 → (putN (nsR i.val) (n.val + 1 : Int) (nmR i.val) = i.val ∧ putE (nsR i.val) (n.val + 1 : Int) (nmR i.val) = 0) := by decide +kernel
theorem room_end : ∀ n : Fin 60, ∀ i : Fin 60, i.val < n.val + 1 → (putE (nsR (n.val + 1)) (n.val + 1 : Int) ⟨#[122, 122]⟩ = 3 ∧ hasN (nsR (n.val + 1)) (nmR i.val) = true ∧ putE (nsR (n.val + 1)) (n.val + 1 : Int) (nmR i.val) = 7) := by decide +kernel
theorem nsR_succ (i : Nat) : nsR (i + 1) = nsR i ++ [nmR i] := by unfold nsR; rw [List.range_succ, List.map_append]; rfl
theorem putI_of {ns : List ByteArray} {room : Int} {x : ByteArray} (h : putE ns room x = 0) : putI ns room x = ns ++ [x] := by
  unfold putE at h; unfold putI
  split at h
  · omega
  · rename_i h1
    rw [if_neg h1]
    split at h
    · omega
    · rename_i h2
      rw [if_neg h2]
      split at h
      · omega
      · rename_i h3
        rw [if_neg h3]
theorem putI_not {ns : List ByteArray} {room : Int} {x : ByteArray} (h : putE ns room x ≠ 0) : putI ns room x = ns ∧ putN ns room x = 0 := by
  unfold putE at h; unfold putI putN
  split at h
  · rename_i h1; rw [if_pos h1, if_pos h1]; exact ⟨rfl, rfl⟩
  · rename_i h1
    rw [if_neg h1, if_neg h1]
    split at h
    · rename_i h2; rw [if_pos h2, if_pos h2]; exact ⟨rfl, rfl⟩
    · rename_i h2
      rw [if_neg h2, if_neg h2]
      split at h
      · rename_i h3; rw [if_pos h3, if_pos h3]; exact ⟨rfl, rfl⟩
      · exact absurd rfl h
set_option maxHeartbeats 2000000 in
set_option maxRecDepth 100000 in
theorem pendulumlaw03_IndexRoom.walk (P : pendulumlaw03_IndexRoom.Pure) (a0 a1 : Int) (w : World) (w0 : (Lit.int .u8 a0).wf = true) (w1 : (Lit.int .u8 a1).wf = true) :
    Calls Tryd.prog 6 #[.int .u8 a0, .int .u8 a1] w fun e w' => e = .returned (.bool true) ∧ Below w.heap.size w w' := by
  obtain ⟨b0, b1⟩ := Go.bounds_u8 w0
  obtain ⟨b2, b3⟩ := Go.bounds_u8 w1
  clear w0 w1
  obtain ⟨m, hm⟩ : ∃ m : Nat, a0 % 60 = m := ⟨(a0 % 60).toNat, by omega⟩
  have hm1 : m < 60 := by omega
  have c0 : 0 ≤ a0 % 60 := by omega
  go_enter Tryd.func6, Tryd.ntmps6
  go_wp2_with fail
  clear hm
  refine (new_ask (1 + (m : Int)) (by omega) (by omega) w).mono ?_
  rintro e wA ⟨rfl, hI, hb⟩
  have HI := Aside0.mk hI
  have HB := Aside0.mk hb
  clear hI hb
  go_wp2_with fail
  refine (pendulumlaw03_awake.calls true _ rfl).mono ?_
  rintro e wB ⟨rfl, hb⟩
  have HI2 := Aside0.mk (HI.out.below hb)
  have HB2 := Aside0.mk (below_step HB.out hb)
  clear hb HI HB
  have hcv : ∀ (W : World) (a b : Int), (convert 37 9 (.slice (some ⟨W.heap.size, 0, none⟩) 3 3)).run Tryd.prog (W.alloc (.cells #[.int .u8 97, .int .u8 a, .int .u8 b] 5)) = .ok (.string (strOfNums [97, a, b])) (W.alloc (.cells #[.int .u8 97, .int .u8 a, .int .u8 b] 5)) := fun W a b =>
    Kd.C_string (P := Tryd.prog) Tryd.underlying37 Tryd.underlying5 Tryd.underlying9 (C_lit_u8 W [97, a, b] (by simp) #[.int .u8 97, .int .u8 a, .int .u8 b] (0, 0) rfl)
  go_wp2_with fail
  go_loopg [8] (m + 1) (fun kq v8 wr => ∃ i : Nat, v8 = .int .i64 i ∧ i + kq = m + 1 ∧ Aside0 (IdxAt (fun k => w.heap.size ≤ k) wr w.heap.size (nsR i) (1 + (m : Int))) ∧ Aside0 (Below w.heap.size w wr))
  case atStart => exact ⟨0, rfl, by omega, HI2, HB2⟩
  case round =>
    clear HI2 HB2
    obtain ⟨i, rfl, hik, HI, HB⟩ := hrel
    by_cases hlt : i < m + 1
    · have hd : decide ((i : Int) < 1 + (m : Int)) = true := by simp; omega
      obtain ⟨q1, hq1⟩ : ∃ q1 : Nat, (i : Int) % 26 = (q1 : Int) := ⟨i % 26, by omega⟩
      obtain ⟨q2, hq2⟩ : ∃ q2 : Nat, (i : Int) / 26 = (q2 : Int) := ⟨i / 26, by omega⟩
      have hq3 : q1 < 26 := by omega
      have hq4 : q2 < 3 := by omega
      have HQ : Aside0 (strOfNums [97, 97 + (q1 : Int), 97 + (q2 : Int)] = nmR i) := ⟨by unfold nmR; rw [show ((i % 26 : Nat) : Int) = (q1 : Int) by omega, show ((i / 26 : Nat) : Int) = (q2 : Int) by omega]⟩
      go_wp2_with fail
      rw [HQ.out]
      have hst := room_steps ⟨m, hm1⟩ ⟨i, by omega⟩ hlt
      have HST : Aside0 (putN (nsR i) (1 + (m : Int)) (nmR i) = i ∧ putE (nsR i) (1 + (m : Int)) (nmR i) = 0) := ⟨by rw [Int.add_comm]; exact hst⟩
      clear hst
      refine (put_more HI.out HB.out (below_alloc (Below.refl _ _) _) (by unfold nsR; simp; omega) (nmR i)).mono ?_
      rintro e wC ⟨rfl, hI, hb⟩
      rw [HST.out.1, HST.out.2]
      rw [putI_of HST.out.2, ← nsR_succ] at hI
      have HI2 := Aside0.mk hI
      have HB2 := Aside0.mk hb
      clear hI hb HI HB hq1 hq2
      go_wp2_with fail
      go_roundg (m + 1 - (i + 1))
      case measure => omega
      case rel => exact ⟨i + 1, by first | rfl | simp, by omega, HI2, HB2⟩
    · obtain rfl : i = m + 1 := by omega
      have hd : decide (((m + 1 : Nat) : Int) < 1 + (m : Int)) = false := by simp; omega
      obtain ⟨j, hj⟩ : ∃ j : Nat, a1 % (1 + (m : Int)) = (j : Int) := ⟨(a1 % (1 + (m : Int))).toNat, by have := Int.emod_nonneg a1 (show (1 + (m : Int)) ≠ 0 by omega); omega⟩
      have hj1 : j < m + 1 := by have := Int.emod_lt_of_pos a1 (show (0 : Int) < 1 + (m : Int) by omega); omega
      have he := room_end ⟨m, hm1⟩ ⟨j, by omega⟩ hj1
      have HE : Aside0 (putE (nsR (m + 1)) (1 + (m : Int)) ⟨#[122, 122]⟩ = 3 ∧ hasN (nsR (m + 1)) (nmR j) = true ∧ putE (nsR (m + 1)) (1 + (m : Int)) (nmR j) = 7) := ⟨by rw [Int.add_comm]; exact he⟩
      clear he
      go_wp2_with fail
      refine (put_more HI.out HB.out (Below.refl _ _) (by unfold nsR; simp; omega) ⟨#[122, 122]⟩).mono ?_
      rintro e wC ⟨rfl, hI, hb⟩
      rw [HE.out.1]
      rw [(putI_not (by rw [HE.out.1]; decide)).1] at hI
      have HI2 := Aside0.mk hI
      have HB2 := Aside0.mk hb
      clear hI hb HI HB
      obtain ⟨q1, hq1⟩ : ∃ q1 : Nat, (j : Int) % 26 = (q1 : Int) := ⟨j % 26, by omega⟩
      obtain ⟨q2, hq2⟩ : ∃ q2 : Nat, (j : Int) / 26 = (q2 : Int) := ⟨j / 26, by omega⟩
      have hq3 : q1 < 26 := by omega
      have hq4 : q2 < 3 := by omega
      have HQ : Aside0 (strOfNums [97, 97 + (q1 : Int), 97 + (q2 : Int)] = nmR j) := ⟨by unfold nmR; rw [show ((j % 26 : Nat) : Int) = (q1 : Int) by omega, show ((j / 26 : Nat) : Int) = (q2 : Int) by omega]⟩
      have hj0 : 0 ≤ a1 % (1 + (m : Int)) := by omega
      have hne : (1 + (m : Int) == 0) = false := beq_eq_false_iff_ne.2 (by omega)
      go_wp2_with fail
      rw [HQ.out]
      have hb1 : Below wC.heap.size wC (wC.alloc (.cells #[.int .u8 97, .int .u8 (97 + (q1 : Int)), .int .u8 (97 + (q2 : Int))] 5)) := below_alloc (Below.refl _ _) _
      have HI3 := Aside0.mk (HI2.out.below hb1)
      have HB3 := Aside0.mk (below_step HB2.out hb1)
      refine (find_ask HI3.out (nmR j)).mono ?_
      rintro e wD ⟨k, rfl, hk, _, hb⟩
      have hk2 := hk HE.out.2.1
      have hkj : k = j := by
        obtain ⟨v1, v2, os, _, hO⟩ := HI3.out
        have hjj : (nsR (m + 1))[j]? = some (nmR j) := by unfold nsR; rw [List.getElem?_map, List.getElem?_range hj1]; rfl
        have hlt : k < (nsR (m + 1)).length := (List.getElem?_eq_some_iff.1 hk2).1
        exact (List.getElem?_inj hlt hO.2.2.1).1 (hk2.trans hjj.symm)
      subst hkj
      rw [HE.out.2.1]
      have HI4 := Aside0.mk (HI3.out.below hb)
      have HB4 := Aside0.mk (below_step HB3.out hb)
      clear hb hb1 hk hk2 HI3 HB3 HI2 HB2 hq1 hq2
      go_wp2_with fail
      refine (put_more HI4.out HB4.out (Below.refl _ _) (by unfold nsR; simp; omega) (nmR k)).mono ?_
      rintro e wE ⟨rfl, hI, hb⟩
      rw [HE.out.2.2]
      rw [(putI_not (by rw [HE.out.2.2]; decide)).1] at hI
      have HI5 := Aside0.mk hI
      have HB5 := Aside0.mk hb
      clear hI hb HI4 HB4
      have hkk : ((k : Int) == (k : Int)) = true := beq_self_eq_true _
      go_wp2_with fail
      refine (sorted_ask HI5.out).mono ?_
      rintro e wF ⟨v, rfl, hR, hb⟩
      obtain ⟨A7, c7, rfl, _, _⟩ := Kd.R_reads hR
      have hsl : (srt (nsR (m + 1))).length = m + 1 := by rw [srt_length]; unfold nsR; simp
      rw [hsl]
      have HB6 := Aside0.mk (below_step HB5.out hb)
      have hmm : (((m : Int) + 1) == (1 + (m : Int))) = true := beq_iff_eq.2 (by omega)
      clear hR hb HI5 HB5 hsl
      go_wp2_with fail
      go_ret
      exact ⟨rfl, HB6.out⟩
end Go.Proofs.YtncmfomhigielaaDoor.Q
