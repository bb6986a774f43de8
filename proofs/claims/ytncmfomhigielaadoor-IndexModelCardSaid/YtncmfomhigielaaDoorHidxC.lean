-- An index's calls, walked by hand: New, Put, Find, Name.
import Derived.Test.YtncmfomhigielaaDoorQ0
import Derived.Test.YtncmfomhigielaaDoorHidxA
import Derived.Test.YtncmfomhigielaaDoorHidxB
import Derived.Test.YtncmfomhigielaaDoorHidxP
import Derived.Test.YtncmfomhigielaaDoorHnamed
import Derived.Test.YtncmfomhigielaaDoorLidxM
import Derived.Test.YtncmfomhigielaaDoorHidxP
import Derived.Test.YtncmfomhigielaaDoorLidxM
namespace Go.Proofs.YtncmfomhigielaaDoor.Q
open Go.RowKit Go.Proofs.YtncmfomhigielaaDoorW.PrintWords Go.Proofs.YtncmfomhigielaaDoorW.PrintLast Go.Proofs.YtncmfomhigielaaDoorW.PrintMore
attribute [local go_sem] max2_int min2_int max_two min_two max_three min_three max_four min_four   -- for this text's walks alone
set_option linter.unusedVariables false
set_option linter.unusedSimpArgs false

variable {S : Nat → Prop} {W : World} {g : Nat} {ns : List ByteArray} {room : Int}
/-- An index in memory: its names, as they came. -/
def IdxAt (S : Nat → Prop) (W : World) (g : Nat) (ns : List ByteArray) (room : Int) : Prop := ∃ v1 v2 os, IxS S W g v1 v2 ns os room ∧ Ord ns os
theorem IdxAt.mono {S' : Nat → Prop} (h : IdxAt S W g ns room) (hs : ∀ k, S k → S' k) : IdxAt S' W g ns room := by
  obtain ⟨v1, v2, os, h1, h2⟩ := h
  exact ⟨v1, v2, os, h1.mono hs, h2⟩
theorem IdxAt.below {W' : World} (h : IdxAt S W g ns room) (hb : Below W.heap.size W W') : IdxAt S W' g ns room := by
  obtain ⟨v1, v2, os, h1, h2⟩ := h
  exact ⟨v1, v2, os, h1.below hb, h2⟩
theorem IdxAt.bound (h : IdxAt S W g ns room) : IdxAt (fun k => S k ∧ k < W.heap.size) W g ns room := by
  obtain ⟨v1, v2, os, h1, h2⟩ := h
  exact ⟨v1, v2, os, h1.bound, h2⟩
theorem IdxAt.kept {W' : World} {S' : Nat → Prop} (h : IdxAt S W g ns room) (hk : Kept W W' S') (hne : ∀ k, S k → ¬ S' k) : IdxAt S W' g ns room := by
  obtain ⟨v1, v2, os, h1, h2⟩ := h
  exact ⟨v1, v2, os, h1.kept hk hne, h2⟩
def putI (ns : List ByteArray) (room : Int) (name : ByteArray) : List ByteArray := if named name = false then ns else if hasN ns name = true then ns else if (ns.length : Int) = room then ns else ns ++ [name]
def putE (ns : List ByteArray) (room : Int) (name : ByteArray) : Int := if named name = false then 1 else if hasN ns name = true then 7 else if (ns.length : Int) = room then 3 else 0
def putN (ns : List ByteArray) (room : Int) (name : ByteArray) : Int := if named name = false then 0 else if hasN ns name = true then 0 else if (ns.length : Int) = room then 0 else ns.length
set_option maxHeartbeats 1000000 in
set_option maxRecDepth 100000 in
theorem put_no (hI : IdxAt S W g ns room) (name : ByteArray) (c : Int) (hc : (named name = false ∧ c = 1) ∨ (named name = true ∧ hasN ns name = true ∧ c = 7) ∨ (named name = true ∧ hasN ns name = false ∧ (ns.length : Int) = room ∧ c = 3)) :
    Calls Tryd.prog 13 #[.pointer (some ⟨g, 0, none⟩), .string name] W fun e W' => e = .returned (.tuple #[.int .i64 0, .int .i64 c]) ∧ Below W.heap.size W W' := by
  obtain ⟨v1, v2, os, hI, hO⟩ := hI
  have HP := Aside0.mk (place_any hI hO.okx name)
  have HI := Aside0.mk hI
  have HF := Aside0.mk (hO.found_eq name)
  clear hI hO
  rcases hc with ⟨h1, rfl⟩ | ⟨h1, h2, rfl⟩ | ⟨h1, h2, h3, rfl⟩
  · have H1 := Aside0.mk h1
    clear h1
    go_enter Tryd.func13, Tryd.ntmps13
    go_wp2_with fail
    refine HP.out.mono ?_
    rintro e wA ⟨rfl, hb⟩
    have HBA := Aside0.mk hb
    clear HP hb
    go_wp2_with fail
    refine (index_Named.calls name false wA (by unfold index_Named.f; rw [H1.out])).mono ?_
    rintro e wB ⟨rfl, hb⟩
    have HBB := Aside0.mk (below_step HBA.out hb)
    clear HBA hb
    go_wp2_with fail
    go_ret2
    exact ⟨rfl, HBB.out⟩
  · have H1 := Aside0.mk h1
    have H2 := Aside0.mk h2
    clear h1 h2
    go_enter Tryd.func13, Tryd.ntmps13
    go_wp2_with fail
    refine HP.out.mono ?_
    rintro e wA ⟨rfl, hb⟩
    rw [HF.out, H2.out]
    have HBA := Aside0.mk hb
    clear HP hb
    go_wp2_with fail
    refine (index_Named.calls name true wA (by unfold index_Named.f; rw [H1.out])).mono ?_
    rintro e wB ⟨rfl, hb⟩
    have HBB := Aside0.mk (below_step HBA.out hb)
    clear HBA hb
    go_wp2_with fail
    go_ret2
    exact ⟨rfl, HBB.out⟩
  · have H1 := Aside0.mk h1
    have H2 := Aside0.mk h2
    have hlx : (((ns.length : Int) == room)) = true := beq_iff_eq.2 h3
    clear h1 h2
    go_enter Tryd.func13, Tryd.ntmps13
    go_wp2_with fail
    refine HP.out.mono ?_
    rintro e wA ⟨rfl, hb⟩
    rw [HF.out, H2.out]
    have HBA := Aside0.mk hb
    clear HP hb
    go_wp2_with fail
    refine (index_Named.calls name true wA (by unfold index_Named.f; rw [H1.out])).mono ?_
    rintro e wB ⟨rfl, hb⟩
    have HBB := Aside0.mk (below_step HBA.out hb)
    clear HBA hb
    have HIB := Aside0.mk (HI.out.below HBB.out)
    obtain ⟨A1, c1, e1, l1, C1⟩ := Kd.R_reads HIB.out.2.2.1
    subst e1
    have x0 := blk_cell HIB.out.1 0
    have x2 := blk_cell HIB.out.1 2
    go_wp2_with fail
    go_quiet (fail)
    go_wp2_with fail
    go_ret2
    exact ⟨rfl, pw_below_drewN HBB.out _⟩
theorem put_ask (hI : IdxAt S W g ns room) (hns : ns.length < 1000000) (name : ByteArray) :
    Calls Tryd.prog 13 #[.pointer (some ⟨g, 0, none⟩), .string name] W fun e W' => e = .returned (.tuple #[.int .i64 (putN ns room name), .int .i64 (putE ns room name)]) ∧ IdxAt (fun k => S k ∨ W.heap.size ≤ k) W' g (putI ns room name) room ∧ Kept W W' S ∧ Below 0 W W' := by
  have hno : ∀ W', Below W.heap.size W W' → IdxAt (fun k => S k ∨ W.heap.size ≤ k) W' g ns room ∧ Kept W W' S ∧ Below 0 W W' := fun W' hb =>
    ⟨(hI.below hb).mono (fun _ h => .inl h), Kept.of_below hb S, ⟨hb.os, hb.tape, hb.output, hb.size, fun k hk => absurd hk (Nat.not_lt_zero _)⟩⟩
  unfold putN putE putI
  cases h1 : named name with
  | false => 
    refine (put_no hI name 1 (.inl ⟨h1, rfl⟩)).mono fun e W' ⟨he, hb⟩ => ⟨he, hno W' hb⟩
  | true =>
    cases h2 : hasN ns name with
    | true => refine (put_no hI name 7 (.inr (.inl ⟨h1, h2, rfl⟩))).mono fun e W' ⟨he, hb⟩ => ⟨he, hno W' hb⟩
    | false =>
      by_cases h3 : (ns.length : Int) = room
      · simp only [Bool.true_eq_false, Bool.false_eq_true, if_false, if_pos h3]
        refine (put_no hI name 3 (.inr (.inr ⟨h1, h2, h3, rfl⟩))).mono fun e W' ⟨he, hb⟩ => ⟨he, hno W' hb⟩
      · simp only [Bool.true_eq_false, Bool.false_eq_true, if_false, if_neg h3]
        obtain ⟨v1, v2, os, hI, hO⟩ := hI
        refine (put_new hI hO.okx (by omega) name h1 (by rw [hO.found_eq, h2]) h3).mono fun e W' ⟨he, v1', v2', h4, h5, h6⟩ => ⟨he, ⟨v1', v2', _, h4, hO.put name (fun hm => ?_) hns⟩, h5, h6⟩
        rw [(hasN_iff ns name).2 hm] at h2
        exact absurd h2 (by decide)
set_option maxHeartbeats 1000000 in
set_option maxRecDepth 100000 in
theorem find_ask (hI : IdxAt S W g ns room) (name : ByteArray) :
    Calls Tryd.prog 16 #[.pointer (some ⟨g, 0, none⟩), .string name] W fun e W' => ∃ n : Nat, e = .returned (.tuple #[.int .i64 n, .bool (hasN ns name)]) ∧ (hasN ns name = true → ns[n]? = some name) ∧ (hasN ns name = false → n = 0) ∧ Below W.heap.size W W' := by
  obtain ⟨v1, v2, os, hI, hO⟩ := hI
  have HP := Aside0.mk (place_any hI hO.okx name)
  have HI := Aside0.mk hI
  have HF := Aside0.mk (hO.found_eq name)
  have HFI := Aside0.mk (hO.find name)
  clear hI hO
  cases h2 : hasN ns name with
  | false =>
    have H2 := Aside0.mk h2
    clear h2
    go_enter Tryd.func16, Tryd.ntmps16
    go_wp2_with fail
    refine HP.out.mono ?_
    rintro e wA ⟨rfl, hb⟩
    rw [HF.out, H2.out]
    have HBA := Aside0.mk hb
    clear HP hb
    go_wp2_with fail
    go_ret2
    exact ⟨0, rfl, by simp, fun _ => rfl, HBA.out⟩
  | true =>
    have H2 := Aside0.mk h2
    obtain ⟨i, hi1, hi2, hi3⟩ := HFI.out ((hasN_iff _ _).1 h2)
    have HI1 := Aside0.mk hi1
    clear h2 HFI hi1
    go_enter Tryd.func16, Tryd.ntmps16
    go_wp2_with fail
    refine HP.out.mono ?_
    rintro e wA ⟨rfl, hb⟩
    rw [HF.out, H2.out]
    have HBA := Aside0.mk hb
    clear HP hb
    have HIB := Aside0.mk (HI.out.below HBA.out)
    obtain ⟨A2, c2, e2, l2, C2⟩ := Kd.R_reads HIB.out.2.2.2
    subst e2
    obtain ⟨q, hq⟩ : ∃ q, ahead (cfOf ns name) os = q := ⟨_, rfl⟩
    rw [hq] at hi2 hi3 ⊢
    obtain ⟨ad, e, hx⟩ := Kd.at_int C2 (q : Int) (by omega) (by omega)
    cases e
    rw [hi2] at hx
    simp only [Int.toNat_natCast] at hx
    have x1 := blk_cell HIB.out.1 1
    have q0 : (0 : Int) ≤ q := by omega
    have q1 : (q : Int) < (os.length : Int) := by omega
    clear C2 hq hi2
    go_wp2_with fail
    go_ret2
    exact ⟨i, rfl, fun _ => HI1.out, by simp, HBA.out⟩
set_option maxHeartbeats 1000000 in
set_option maxRecDepth 100000 in
theorem name_ask (hI : IdxAt S W g ns room) (i : Int) :
    Calls Tryd.prog 18 #[.pointer (some ⟨g, 0, none⟩), .int .i64 i] W fun e W' => e = .returned (if 0 ≤ i ∧ i < (ns.length : Int) then .tuple #[.string (rdOf ByteArray.empty ns i), .bool true] else .tuple #[.string ⟨#[]⟩, .bool false]) ∧ Below W.heap.size W W' := by
  obtain ⟨v1, v2, os, hI, hO⟩ := hI
  obtain ⟨A1, c1, e1, l1, C1⟩ := Kd.R_reads hI.2.2.1
  subst e1
  have x0 := blk_cell hI.1 0
  have HB := Aside0.mk (Below.refl W.heap.size W)
  clear hO hI
  by_cases h0 : 0 ≤ i
  · have d0 : decide (i < 0) = false := by simp; omega
    by_cases h1 : i < (ns.length : Int)
    · have d1 : decide (i ≥ (ns.length : Int)) = false := by simp; omega
      obtain ⟨ad, e, hx⟩ := Kd.at_string C1 i h0 h1
      cases e
      rw [if_pos ⟨h0, h1⟩]
      clear C1
      go_enter Tryd.func18, Tryd.ntmps18
      go_wp2_with fail
      go_ret2
      exact ⟨rfl, HB.out⟩
    · have d1 : decide (i ≥ (ns.length : Int)) = true := by simp; omega
      rw [if_neg (fun h => h1 h.2)]
      clear C1
      go_enter Tryd.func18, Tryd.ntmps18
      go_wp2_with fail
      go_ret2
      exact ⟨rfl, HB.out⟩
  · have d0 : decide (i < 0) = true := by simp; omega
    rw [if_neg (fun h => h0 h.1)]
    clear C1
    go_enter Tryd.func18, Tryd.ntmps18
    go_wp2_with fail
    go_ret2
    exact ⟨rfl, HB.out⟩
set_option maxHeartbeats 1000000 in
set_option maxRecDepth 100000 in
theorem new_ask (room : Int) (h0 : 1 ≤ room) (h1 : room ≤ 256) (W : World) :
    Calls Tryd.prog 12 #[.int .i64 room] W fun e W' => e = .returned (.tuple #[.pointer (some ⟨W.heap.size, 0, none⟩), .int .i64 0]) ∧ IdxAt (fun k => W.heap.size ≤ k) W' W.heap.size [] room ∧ Below W.heap.size W W' := by
  have d0 : decide (room < 1) = false := by simp; omega
  have d1 : decide (room > 256) = false := by simp; omega
  go_enter Tryd.func12, Tryd.ntmps12
  go_wp2_with fail
  go_ret2
  exact ⟨rfl, ⟨_, _, [], ⟨blk_new W _, Nat.le_refl _, Kd.R_nil _ _ _ _ _, Kd.R_nil _ _ _ _ _⟩, ⟨by simp, rfl, List.nodup_nil, Nat.zero_le _⟩⟩, below_alloc (Below.refl _ _) _⟩
set_option maxHeartbeats 1000000 in
set_option maxRecDepth 100000 in
theorem new_no (room : Int) (h : room < 1 ∨ 256 < room) (W : World) :
    Calls Tryd.prog 12 #[.int .i64 room] W fun e W' => e = .returned (.tuple #[.pointer none, .int .i64 1]) ∧ W' = W := by
  by_cases h0 : room < 1
  · have d0 : decide (room < 1) = true := by simp; omega
    go_enter Tryd.func12, Tryd.ntmps12
    go_wp2_with fail
    go_ret2
    exact ⟨rfl, rfl⟩
  · have d0 : decide (room < 1) = false := by simp; omega
    have d1 : decide (room > 256) = true := by simp; omega
    go_enter Tryd.func12, Tryd.ntmps12
    go_wp2_with fail
    go_ret2
    exact ⟨rfl, rfl⟩
end Go.Proofs.YtncmfomhigielaaDoor.Q
