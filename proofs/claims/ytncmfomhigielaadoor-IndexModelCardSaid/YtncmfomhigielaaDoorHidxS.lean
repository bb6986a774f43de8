-- An index's names, sorted: walked by hand.
-- HAND (*pendulum/index.Index).Sorted rounds=0 making=1
-- NEEDS pendulum/pendulumref03.Find
import Derived.Test.YtncmfomhigielaaDoorQ0
import Derived.Test.YtncmfomhigielaaDoorHidxA
import Derived.Test.YtncmfomhigielaaDoorHidxC
import Derived.Test.YtncmfomhigielaaDoorLidxM
import Derived.Test.YtncmfomhigielaaDoorHidxC
namespace Go.Proofs.YtncmfomhigielaaDoor.Q
open Go.RowKit Go.Proofs.YtncmfomhigielaaDoorW.PrintWords Go.Proofs.YtncmfomhigielaaDoorW.PrintLast Go.Proofs.YtncmfomhigielaaDoorW.PrintMore
attribute [local go_sem] max2_int min2_int max_two min_two max_three min_three max_four min_four   -- for this text's walks alone
set_option linter.unusedVariables false
set_option linter.unusedSimpArgs false

variable {S : Nat → Prop} {W : World} {g : Nat} {ns : List ByteArray} {room : Int}
set_option maxHeartbeats 1000000 in
set_option maxRecDepth 100000 in
theorem sorted_ask (hI : IdxAt S W g ns room) :
    Calls Tryd.prog 14 #[.pointer (some ⟨g, 0, none⟩)] W fun e W' => ∃ v : Value, e = .returned v ∧ Kd.R Kd.string 9 W' W.heap.size (fun _ => True) v (srt ns) ∧ Below W.heap.size W W' := by
  obtain ⟨v1, v2, os, hI, hO⟩ := hI
  obtain ⟨A1, c1, e1, l1, C1⟩ := Kd.R_reads hI.2.2.1
  subst e1
  obtain ⟨A2, c2, e2, l2, C2⟩ := Kd.R_reads hI.2.2.2
  subst e2
  have x0 := blk_cell hI.1 0
  have x1 := blk_cell hI.1 1
  have HC1 := Aside0.mk C1
  have HC2 := Aside0.mk C2
  have HO := Aside0.mk hO
  have hmil : os.length ≤ 1000000 := hO.okx.1
  have HI := Aside0.mk hI
  clear hI hO C1 C2
  go_enter Tryd.func14, Tryd.ntmps14
  go_wp2
  go_loopg [3, 11] os.length (fun kq v3 v11 w' => ∃ i : Nat, v11 = .int .i64 i ∧ i + kq = os.length ∧ Aside0 (Kd.R Kd.string 9 w' W.heap.size (fun _ => True) v3 ((os.take i).map (rdOf ByteArray.empty ns))) ∧ Aside0 (Below W.heap.size W w'))
  case atStart => exact ⟨0, rfl, by omega, ⟨Kd.R_nil _ _ _ _ _⟩, ⟨Below.refl _ _⟩⟩
  case round =>
    obtain ⟨i, rfl, hik, HR, HB⟩ := hrel
    clear x0 x1
    by_cases hlt : i < os.length
    · have hd : decide ((i : Int) < (os.length : Int)) = true := by simp; omega
      obtain ⟨ad, e, hx⟩ := Kd.at_int HC2.out (i : Int) (by omega) (by omega)
      cases e
      have hm := HO.out.1 _ (rd_mem_int os i hlt)
      obtain ⟨ad1, e, hy⟩ := Kd.at_string HC1.out (rd os (i : Int)) hm.1 hm.2
      cases e
      replace hx := pw_cell_below HB.out hx
      replace hy := pw_cell_below HB.out hy
      have HX0 := Aside0.mk (HI.out.below HB.out)
      have x0 := blk_cell HX0.out.1 0
      have p0 : (0 : Int) ≤ i := by omega
      have p1 : (i : Int) < (os.length : Int) := by omega
      have HN : Aside0 (((os.take (i + 1)).map (rdOf ByteArray.empty ns)) = ((os.take i).map (rdOf ByteArray.empty ns)) ++ [rdOf ByteArray.empty ns (rd os (i : Int))]) := ⟨by
        rw [List.take_succ_eq_append_getElem hlt, List.map_append]
        simp [rd, List.getD_eq_getElem?_getD, List.getElem?_eq_getElem hlt]⟩
      have hl8 : ((os.take i).map (rdOf ByteArray.empty ns)).length < 8796093022208 := by rw [List.length_map, List.length_take]; omega
      have LM := Aside0.mk hl8
      obtain ⟨hm0, hm1⟩ := hm
      obtain ⟨y, hyy⟩ : ∃ y, rd os (i : Int) = y := ⟨_, rfl⟩
      rw [hyy] at hx hy hm0 hm1
      rw [hyy] at HN
      simp only [Int.toNat_natCast] at hx
      obtain ⟨xs, hxs⟩ : ∃ xs, ((os.take i).map (rdOf ByteArray.empty ns)) = xs := ⟨_, rfl⟩
      rw [hxs] at HR HN LM
      clear hl8 hyy hxs
      go_wp2_with (first | ((with_reducible refine gate_builtin (b := .append) (xs := #[.tmp 15, .tmp 23]) rfl ?_); at_builtin; refine Kd.R_append Kd.string W.heap.size rfl (.tmp 15) (.tmp 23) 24 9 (.string ⟨#[]⟩) 16 rfl Tryd.underlying24 idx_infoS rfl (by decide) (by omega) u3 xs (rdOf ByteArray.empty ns y) [.string (rdOf ByteArray.empty ns y)] (fun _ => True) (fun _ => False) rfl rfl ?aP (fun _ hk => hk.elim) ?aF ?aO (Below.refl _ _) ?aS ?aL ?_; (case aP => exact rfl); (case aF => exact (fun _ _ => trivial)); (case aO => exact (by (with_reducible repeat (first | apply Kd.R_alloc | apply Kd.R_drewN | apply Kd.R_drew)); exact HR.out)); (case aS => exact (HB.out.size)); (case aL => have := LM.out; omega); intro v119 w10 ho hb hg hat; rw [← HN.out] at ho; have HR2 := Aside0.mk ho; have HB2 := Aside0.mk (below_weaken HB.out (Nat.le_refl _) hb); clear HR HB ho hb hg hat))
      go_roundg (os.length - (i + 1))
      case measure => omega
      case rel => exact ⟨i + 1, by simp, by omega, ⟨HR2.out⟩, ⟨HB2.out⟩⟩
    · have hd : decide ((i : Int) < (os.length : Int)) = false := by simp; omega
      go_wp2
      go_ret
      refine ⟨_, rfl, ?_, HB.out⟩
      have := HR.out
      rwa [List.take_of_length_le (by omega), HO.out.2.1] at this
end Go.Proofs.YtncmfomhigielaaDoor.Q
