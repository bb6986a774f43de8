-- Names in the order of their letters: the plain laws of an index (no program in sight).
-- PLAIN
import Derived.Test.YtncmfomhigielaaDoorQ0
import Derived.Test.YtncmfomhigielaaDoorHidxA
import Derived.Test.YtncmfomhigielaaDoorHidxB
import Derived.Test.YtncmfomhigielaaDoorHidxB
namespace Go.Proofs.YtncmfomhigielaaDoor.Q
open Go.RowKit Go.Proofs.YtncmfomhigielaaDoorW.PrintWords Go.Proofs.YtncmfomhigielaaDoorW.PrintLast Go.Proofs.YtncmfomhigielaaDoorW.PrintMore
attribute [local go_sem] max2_int min2_int max_two min_two max_three min_three max_four min_four   -- for this text's walks alone
set_option linter.unusedVariables false
set_option linter.unusedSimpArgs false

theorem idx_infoS : (Tryd.prog.info? 9).map (fun i => (i.zero, i.size, i.bytes)) = some (some (.string ⟨#[]⟩), 1, 16) := by kernel_rfl
theorem u8_lt (a b : UInt8) : a < b ↔ a.toNat < b.toNat := UInt8.lt_iff_toNat_lt
theorem u8_eq {a b : UInt8} (h : a.toNat = b.toNat) : a = b := UInt8.toNat_inj.1 h
theorem cmpB_self : ∀ a : List UInt8, Lib.compareBytes a a = 0
  | [] => rfl
  | a :: r => by
    have h : ¬ a < a := by rw [u8_lt]; omega
    rw [Lib.compareBytes, if_neg h, if_neg h, cmpB_self r]
theorem cmpB_zero : ∀ a b : List UInt8, Lib.compareBytes a b = 0 → a = b
  | [], [], _ => rfl
  | [], _ :: _, h => by simp [Lib.compareBytes] at h
  | _ :: _, [], h => by simp [Lib.compareBytes] at h
  | a :: r, b :: s, h => by
    rw [Lib.compareBytes] at h
    by_cases h1 : a < b
    · rw [if_pos h1] at h; omega
    · by_cases h2 : b < a
      · rw [if_neg h1, if_pos h2] at h; omega
      · rw [if_neg h1, if_neg h2] at h
        rw [u8_lt] at h1 h2
        rw [u8_eq (a := a) (b := b) (by omega), cmpB_zero r s h]
theorem cmpB_anti : ∀ a b : List UInt8, Lib.compareBytes b a = - Lib.compareBytes a b
  | [], [] => rfl
  | [], _ :: _ => rfl
  | _ :: _, [] => rfl
  | a :: r, b :: s => by
    rw [Lib.compareBytes, Lib.compareBytes]
    by_cases h1 : a < b
    · have h2 : ¬ b < a := by rw [u8_lt] at *; omega
      rw [if_pos h1, if_neg h2, if_pos h1]; rfl
    · by_cases h2 : b < a
      · rw [if_neg h1, if_pos h2, if_pos h2, if_neg h1]
      · rw [if_neg h1, if_neg h2, if_neg h2, if_neg h1, cmpB_anti r s]
theorem cmpB_trans : ∀ a b c : List UInt8, Lib.compareBytes a b < 0 → Lib.compareBytes b c < 0 → Lib.compareBytes a c < 0
  | [], [], _, h, _ => by simp [Lib.compareBytes] at h
  | [], _ :: _, [], _, h => by simp [Lib.compareBytes] at h
  | [], _ :: _, _ :: _, _, _ => by simp [Lib.compareBytes]
  | _ :: _, [], _, h, _ => by simp [Lib.compareBytes] at h
  | _ :: _, _ :: _, [], _, h => by simp [Lib.compareBytes] at h
  | a :: r, b :: s, c :: t, h, h' => by
    rw [Lib.compareBytes] at h h' ⊢
    have q1 := (u8_lt a b); have q2 := u8_lt b a; have q3 := u8_lt b c; have q4 := u8_lt c b; have q5 := u8_lt a c; have q6 := u8_lt c a
    rcases Nat.lt_trichotomy a.toNat b.toNat with e1 | e1 | e1
    · rcases Nat.lt_trichotomy b.toNat c.toNat with e2 | e2 | e2
      · rw [if_pos (q5.2 (by omega))]; decide
      · rw [if_pos (q5.2 (by omega))]; decide
      · rw [if_neg (fun h => by have := q3.1 h; omega), if_pos (q4.2 e2)] at h'; omega
    · rcases Nat.lt_trichotomy b.toNat c.toNat with e2 | e2 | e2
      · rw [if_pos (q5.2 (by omega))]; decide
      · rw [if_neg (fun h => by have := q1.1 h; omega), if_neg (fun h => by have := q2.1 h; omega)] at h
        rw [if_neg (fun h => by have := q3.1 h; omega), if_neg (fun h => by have := q4.1 h; omega)] at h'
        rw [if_neg (fun h => by have := q5.1 h; omega), if_neg (fun h => by have := q6.1 h; omega)]
        exact cmpB_trans r s t h h'
      · rw [if_neg (fun h => by have := q3.1 h; omega), if_pos (q4.2 e2)] at h'; omega
    · rw [if_neg (fun h => by have := q1.1 h; omega), if_pos (q2.2 e1)] at h; omega
theorem less_cmp : ∀ a b : List UInt8, Op.bytesLess a b = decide (Lib.compareBytes a b < 0)
  | [], [] => rfl
  | [], _ :: _ => rfl
  | _ :: _, [] => rfl
  | a :: r, b :: s => by
    rw [Op.bytesLess, Lib.compareBytes, less_cmp r s]
    rcases Nat.lt_trichotomy a.toNat b.toNat with e1 | e1 | e1
    · have := (u8_lt a b).2 e1; simp [this]
    · obtain rfl := u8_eq e1
      have : ¬ a < a := by rw [u8_lt]; omega
      simp [this]
    · have h1 := (u8_lt b a).2 e1
      have h2 : ¬ a < b := by rw [u8_lt]; omega
      have h3 : ¬ a = b := fun e => by rw [e] at e1; omega
      simp [h1, h2, h3]
theorem cmp_self (a : ByteArray) : cmpS a a = 0 := cmpB_self _
theorem cmp_zero {a b : ByteArray} (h : cmpS a b = 0) : a = b := by
  have := cmpB_zero _ _ h
  cases a with | mk x => cases b with | mk y => 
  simp only at this
  rw [Array.toList_inj.1 this]
theorem cmp_anti (a b : ByteArray) : cmpS b a = - cmpS a b := cmpB_anti _ _
theorem cmp_trans {a b c : ByteArray} (h1 : cmpS a b < 0) (h2 : cmpS b c < 0) : cmpS a c < 0 := cmpB_trans _ _ _ h1 h2
theorem cmp_le_lt {a b c : ByteArray} (h1 : cmpS a b ≤ 0) (h2 : cmpS b c < 0) : cmpS a c < 0 := by
  by_cases h : cmpS a b = 0
  · rw [cmp_zero h]; exact h2
  · exact cmp_trans (by omega) h2
theorem cmp_le {a b c : ByteArray} (h1 : cmpS a b ≤ 0) (h2 : cmpS b c ≤ 0) : cmpS a c ≤ 0 := by
  by_cases h : cmpS b c = 0
  · rw [← cmp_zero h]; exact h1
  · have := cmp_le_lt h1 (c := c) (by omega); omega
def Up (l : List ByteArray) : Prop := l.Pairwise (fun a b => cmpS a b ≤ 0)
def lower (x : ByteArray) (l : List ByteArray) : Nat := l.countP (fun y => decide (cmpS y x < 0))
def ins (out : List ByteArray) (x : ByteArray) : List ByteArray := out.take (lower x out) ++ x :: out.drop (lower x out)
def srt (l : List ByteArray) : List ByteArray := l.foldl ins []
theorem lower_le (x : ByteArray) (l : List ByteArray) : lower x l ≤ l.length := List.countP_le_length
theorem up_cut (x : ByteArray) : ∀ l : List ByteArray, Up l → (∀ y, y ∈ l.take (lower x l) → cmpS y x < 0) ∧ (∀ y, y ∈ l.drop (lower x l) → 0 ≤ cmpS y x)
  | [], _ => by simp [lower]
  | a :: r, h => by
    obtain ⟨h1, h2⟩ := List.pairwise_cons.1 h
    obtain ⟨i1, i2⟩ := up_cut x r h2
    by_cases ha : cmpS a x < 0
    · have e : lower x (a :: r) = lower x r + 1 := by unfold lower; rw [List.countP_cons_of_pos (by simpa using ha)]
      rw [e]
      refine ⟨fun y hy => ?_, i2⟩
      rcases List.mem_cons.1 hy with rfl | hy
      · exact ha
      · exact i1 y hy
    · have hall : ∀ y, y ∈ a :: r → 0 ≤ cmpS y x := fun y hy => by
        rcases List.mem_cons.1 hy with rfl | hy
        · omega
        · by_cases hn : cmpS y x < 0
          · have := cmp_le_lt (h1 y hy) hn; omega
          · omega
      have e : lower x (a :: r) = 0 := by
        unfold lower
        rw [List.countP_eq_zero]
        intro y hy
        have := hall y hy
        simp; omega
      rw [e]
      exact ⟨fun y hy => by simp at hy, fun y hy => hall y hy⟩
theorem ins_up (x : ByteArray) (l : List ByteArray) (h : Up l) : Up (ins l x) := by
  obtain ⟨h1, h2⟩ := up_cut x l h
  unfold ins Up
  rw [List.pairwise_append]
  refine ⟨h.sublist (List.take_sublist _ _), ?_, fun a ha b hb => ?_⟩
  · rw [List.pairwise_cons]
    exact ⟨fun y hy => by have := h2 y hy; rw [cmp_anti]; omega, h.sublist (List.drop_sublist _ _)⟩
  · have h3 := h1 a ha
    rcases List.mem_cons.1 hb with rfl | hb
    · omega
    · have h4 := h2 b hb
      have := cmp_le_lt (a := a) (b := x) (c := b) (by omega)
      by_cases h0 : cmpS b x = 0
      · rw [cmp_zero h0]; omega
      · have := cmp_trans h3 (c := b) (by rw [cmp_anti]; omega); omega
theorem ins_perm (x : ByteArray) (l : List ByteArray) : (ins l x).Perm (x :: l) := by
  unfold ins
  refine List.perm_middle.trans (List.Perm.cons _ ?_)
  rw [List.take_append_drop]
theorem ins_length (x : ByteArray) (l : List ByteArray) : (ins l x).length = l.length + 1 := (ins_perm x l).length_eq
theorem srt_snoc (l : List ByteArray) (x : ByteArray) : srt (l ++ [x]) = ins (srt l) x := by simp [srt, List.foldl_append]
theorem foldl_ins_up : ∀ (l : List ByteArray) (o : List ByteArray), Up o → Up (l.foldl ins o)
  | [], _, h => h
  | x :: r, o, h => foldl_ins_up r _ (ins_up x o h)
theorem foldl_ins_perm : ∀ (l : List ByteArray) (o : List ByteArray), (l.foldl ins o).Perm (o ++ l)
  | [], o => by simp
  | x :: r, o => by
    refine (foldl_ins_perm r (ins o x)).trans ?_
    refine ((ins_perm x o).append_right r).trans ?_
    exact (List.perm_middle (l₁ := o) (a := x) (l₂ := r)).symm
theorem srt_up (l : List ByteArray) : Up (srt l) := foldl_ins_up l [] List.Pairwise.nil
theorem srt_perm (l : List ByteArray) : (srt l).Perm l := by simpa [srt] using foldl_ins_perm l []
theorem srt_length (l : List ByteArray) : (srt l).length = l.length := (srt_perm l).length_eq
theorem up_perm_eq : ∀ a b : List ByteArray, Up a → Up b → a.Perm b → a = b
  | [], b, _, _, h => by simpa using h.symm
  | x :: r, [], _, _, h => by simp at h
  | x :: r, y :: s, ha, hb, h => by
    have hxy : x = y := by
      have h1 : x ∈ y :: s := h.subset (by simp)
      have h2 : y ∈ x :: r := h.symm.subset (by simp)
      rcases List.mem_cons.1 h1 with h1 | h1
      · exact h1
      · rcases List.mem_cons.1 h2 with h2 | h2
        · exact h2.symm
        · have q1 := (List.pairwise_cons.1 ha).1 y h2
          have q2 := (List.pairwise_cons.1 hb).1 x h1
          rw [cmp_anti] at q2
          exact cmp_zero (by omega)
    subst hxy
    rw [up_perm_eq r s (List.pairwise_cons.1 ha).2 (List.pairwise_cons.1 hb).2 (List.Perm.cons_inv h)]
def hasN (ns : List ByteArray) (x : ByteArray) : Bool := ns.any (fun y => decide (cmpS y x = 0))
theorem hasN_iff (ns : List ByteArray) (x : ByteArray) : hasN ns x = true ↔ x ∈ ns := by
  unfold hasN
  rw [List.any_eq_true]
  constructor
  · rintro ⟨y, hy, h⟩
    rwa [← cmp_zero (of_decide_eq_true h)]
  · intro h
    exact ⟨x, h, decide_eq_true (cmp_self x)⟩
/-- The numbers in the order of their names. -/
def Ord (ns : List ByteArray) (os : List Int) : Prop := (∀ i, i ∈ os → 0 ≤ i ∧ i < (ns.length : Int)) ∧ os.map (rdOf ByteArray.empty ns) = srt ns ∧ ns.Nodup ∧ ns.length ≤ 1000000
theorem Ord.length {ns : List ByteArray} {os : List Int} (h : Ord ns os) : os.length = ns.length := by
  have := congrArg List.length h.2.1
  rwa [List.length_map, srt_length] at this
theorem Ord.at {ns : List ByteArray} {os : List Int} (h : Ord ns os) (a : Nat) (ha : a < os.length) : (srt ns)[a]? = some (rdOf ByteArray.empty ns (rd os (a : Int))) := by
  rw [← h.2.1, List.getElem?_map, List.getElem?_eq_getElem ha]
  simp [rd, List.getD_eq_getElem?_getD, List.getElem?_eq_getElem ha]
theorem up_at {l : List ByteArray} (h : Up l) {a b : Nat} {x y : ByteArray} (hab : a ≤ b) (hx : l[a]? = some x) (hy : l[b]? = some y) : cmpS x y ≤ 0 := by
  by_cases e : a = b
  · subst e; rw [hx] at hy; cases hy; rw [cmp_self]; exact Int.le_refl _
  · obtain ⟨h1, rfl⟩ := List.getElem?_eq_some_iff.1 hx
    obtain ⟨h2, rfl⟩ := List.getElem?_eq_some_iff.1 hy
    exact List.pairwise_iff_getElem.1 h a b h1 h2 (by omega)
theorem Ord.okx {ns : List ByteArray} {os : List Int} (h : Ord ns os) : Okx ns os := by
  refine ⟨by rw [h.length]; exact h.2.2.2, h.1, fun name a b hab hb hlt => ?_⟩
  exact cmp_le_lt (up_at (srt_up ns) hab (h.at a (by omega)) (h.at b hb)) hlt
theorem Ord.ahead_eq {ns : List ByteArray} {os : List Int} (h : Ord ns os) (name : ByteArray) : ahead (cfOf ns name) os = lower name (srt ns) := by
  rw [← h.2.1]
  unfold ahead lower
  rw [List.countP_map]
  rfl
theorem Ord.found_eq {ns : List ByteArray} {os : List Int} (h : Ord ns os) (name : ByteArray) : found (cfOf ns name) os = hasN ns name := by
  unfold found
  rw [Bool.eq_iff_iff]
  rw [hasN_iff]
  simp only [Bool.and_eq_true, decide_eq_true_eq]
  constructor
  · rintro ⟨h1, h2⟩
    have := h.at _ h1
    have e := cmp_zero h2
    rw [e] at this
    exact (srt_perm ns).subset (List.mem_of_getElem? this)
  · intro hm
    have hm2 : name ∈ srt ns := (srt_perm ns).symm.subset hm
    obtain ⟨h1, h2⟩ := up_cut name (srt ns) (srt_up ns)
    have hcut := List.take_append_drop (lower name (srt ns)) (srt ns)
    rw [← hcut] at hm2
    have hd : name ∈ (srt ns).drop (lower name (srt ns)) := by
      rcases List.mem_append.1 hm2 with hm2 | hm2
      · have := h1 _ hm2; rw [cmp_self] at this; omega
      · exact hm2
    rw [h.ahead_eq]
    have hlt : lower name (srt ns) < os.length := by
      rw [h.length, ← srt_length ns]
      have := List.length_pos_of_mem hd
      rw [List.length_drop] at this
      omega
    refine ⟨hlt, ?_⟩
    have ha := h.at _ hlt
    have hmem : rdOf ByteArray.empty ns (rd os (lower name (srt ns) : Int)) ∈ (srt ns).drop (lower name (srt ns)) := by
      refine List.mem_of_getElem? (i := 0) ?_
      rw [List.getElem?_drop, Nat.add_zero, ha]
    have h3 := h2 _ hmem
    obtain ⟨j, hj⟩ := List.getElem?_of_mem hd
    rw [List.getElem?_drop] at hj
    have h4 := up_at (srt_up ns) (Nat.le_add_right _ _) ha hj
    unfold cfOf
    omega
theorem Ord.find {ns : List ByteArray} {os : List Int} (h : Ord ns os) (name : ByteArray) (hf : name ∈ ns) : ∃ i : Nat, ns[i]? = some name ∧ rd os (ahead (cfOf ns name) os : Int) = (i : Int) ∧ ahead (cfOf ns name) os < os.length := by
  have h1 := h.found_eq name
  rw [(hasN_iff _ _).2 hf] at h1
  unfold found at h1
  simp only [Bool.and_eq_true, decide_eq_true_eq] at h1
  obtain ⟨h1, h2⟩ := h1
  have hm : rd os (ahead (cfOf ns name) os : Int) ∈ os := by
    simp only [rd, Int.toNat_natCast, List.getD_eq_getElem?_getD, List.getElem?_eq_getElem h1, Option.getD_some]
    exact List.getElem_mem h1
  obtain ⟨b0, b1⟩ := h.1 _ hm
  refine ⟨(rd os (ahead (cfOf ns name) os : Int)).toNat, ?_, by omega, h1⟩
  have := cmp_zero h2
  unfold rdOf at this
  rw [List.getD_eq_getElem?_getD, List.getElem?_eq_getElem (by omega), Option.getD_some] at this
  rw [List.getElem?_eq_getElem (by omega), this]
theorem Ord.put {ns : List ByteArray} {os : List Int} (h : Ord ns os) (name : ByteArray) (hn : name ∉ ns) (hl : ns.length < 1000000) :
    Ord (ns ++ [name]) (os.take (ahead (cfOf ns name) os) ++ (ns.length : Int) :: os.drop (ahead (cfOf ns name) os)) := by
  have hr : ∀ i, i ∈ os → rdOf ByteArray.empty (ns ++ [name]) i = rdOf ByteArray.empty ns i := fun i hi => by
    obtain ⟨b0, b1⟩ := h.1 i hi
    unfold rdOf
    rw [List.getD_eq_getElem?_getD, List.getD_eq_getElem?_getD, List.getElem?_append_left (by omega)]
  refine ⟨fun i hi => ?_, ?_, ?_, by simp; omega⟩
  · have : i ∈ os ∨ i = (ns.length : Int) := by
      rcases List.mem_append.1 hi with hi | hi
      · exact .inl (List.mem_of_mem_take hi)
      · rcases List.mem_cons.1 hi with hi | hi
        · exact .inr hi
        · exact .inl (List.mem_of_mem_drop hi)
    rw [List.length_append]
    rcases this with hi | hi
    · have := h.1 i hi; simp; omega
    · simp; omega
  · rw [srt_snoc, List.map_append, List.map_cons]
    unfold ins
    rw [← h.ahead_eq name, ← h.2.1, ← List.map_take, ← List.map_drop]
    rw [List.map_congr_left (fun i hi => hr i (List.mem_of_mem_take hi)), List.map_congr_left (l := os.drop _) (fun i hi => hr i (List.mem_of_mem_drop hi))]
    congr 2
    simp [rdOf]
  · rw [List.nodup_append]
    refine ⟨h.2.2.1, by simp, fun a ha b hb => ?_⟩
    rw [List.mem_singleton.1 hb]
    exact fun e => hn (e ▸ ha)
end Go.Proofs.YtncmfomhigielaaDoor.Q
