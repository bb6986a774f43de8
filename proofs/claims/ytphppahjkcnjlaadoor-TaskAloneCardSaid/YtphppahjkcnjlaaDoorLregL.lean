-- A region that asks the tape: loads are taken first, though stores into what they read come at its end (they wait for the loads).
import Derived.Test.YtphppahjkcnjlaaDoorQ0
import Derived.OrdersHeld
import Derived.Deep.RegionHeld
namespace Go.Proofs.YtphppahjkcnjlaaDoor.Q
open Go.RowKit Go.Proofs.YtphppahjkcnjlaaDoorW.PrintWords Go.Proofs.YtphppahjkcnjlaaDoorW.PrintLast Go.Proofs.YtphppahjkcnjlaaDoorW.PrintMore
attribute [local go_sem] max2_int min2_int max_two min_two max_three min_three max_four min_four   -- for this text's walks alone
set_option linter.unusedVariables false
set_option linter.unusedSimpArgs false

section
variable {P : Program} {md : Region.Mode} {ops : Array Oper} {Q : Exit → Act → World → Prop} {S : World → Prop} {sts : List Nat}
/-- None of the stores has come up. -/
def noneUp (sts : List Nat) (listed : Array Bool) : Prop := ∀ k, k ∈ sts → listed.getD k true = false
/-- Whatever order is picked from here on; S holds as long as none of the stores has come up. -/
def wpL (P : Program) (md : Region.Mode) (ops : Array Oper) (Q : Exit → Act → World → Prop) (S : World → Prop) (sts : List Nat) : Nat → Array Bool → Act → World → Prop
  | 0, listed, a, w => Region.ready md ops listed = [] ∧ Q .normal a w
  | fuel + 1, listed, a, w => (Region.ready md ops listed = [] → Q .normal a w) ∧
    ∀ i ∈ Region.ready md ops listed, wpOp P ops Q i (fun a' w' => (noneUp sts (listed.setIfInBounds i true) → S w') ∧ wpL P md ops Q S sts fuel (listed.setIfInBounds i true) a' w') a w
theorem wpL_any : ∀ (fuel : Nat) (listed : Array Bool) (a : Act) (w : World), wpL P md ops Q S sts fuel listed a w → wpAny P md ops Q fuel listed a w
  | 0, _, _, _, h => h
  | fuel + 1, _, _, _, h => ⟨h.1, fun i hi => wpOp_mono (fun a' w' h' => wpL_any fuel _ a' w' h'.2) (h.2 i hi)⟩
theorem noneUp_set {listed : Array Bool} {j : Nat} (h : noneUp sts listed) (hj : j ∉ sts) : noneUp sts (listed.setIfInBounds j true) := fun k hk => by
  have hne : j ≠ k := fun e => hj (e ▸ hk)
  have := h k hk
  rw [← this]
  simp [Array.getD_eq_getD_getElem?, hne]
theorem wpL_first {i : Nat} {oi : Oper} {v : Value} (hi : ops[i]? = some oi) (hsel : ∀ (j : Nat) (o : Oper) cs b, ops[j]? = some o → o.op ≠ .select cs b)
    (hQ : ∀ c a w, Q (.panic c) (a.put oi.dst v) w → Q (.panic c) a w) (hist : i ∉ sts)
    (hst : ∀ k, k ∈ sts → ∀ ok, ops[k]? = some ok → ∃ e ∈ ok.after, Region.binds md e = true ∧ e.on = i) :
    ∀ (fuel : Nat) (listed : Array Bool) (a : Act) (w : World),
      (∀ j oj, ops[j]? = some oj → j ≠ i → listed.getD j true = false → (∀ e ∈ oj.after, Region.binds md e = true → e.on ≠ i) → oi.apart ops oj = true) →
      i ∈ Region.ready md ops listed → YieldsIf P ops S oi v a → S w → noneUp sts listed →
      wpL P md ops Q S sts fuel (listed.setIfInBounds i true) (a.put oi.dst v) w → wpL P md ops Q S sts (fuel + 1) listed a w := by
  intro fuel
  induction fuel with
  | zero =>
    intro listed a w _ hr hy hS _ H
    refine ⟨fun h => (by rw [h] at hr; cases hr), fun j hj => ?_⟩
    by_cases hji : j = i
    · rw [hji]; exact hy.wpOp hi hS ⟨fun _ => hS, H⟩
    · have := ready_mono hj hji
      rw [H.1] at this
      cases this
  | succ fuel ih =>
    intro listed a w hfree hr hy hS hN H
    refine ⟨fun h => (by rw [h] at hr; cases hr), fun j hj => ?_⟩
    by_cases hji : j = i
    · rw [hji]; exact hy.wpOp hi hS ⟨fun _ => hS, H⟩
    · have h1 := H.2 j (ready_mono hj hji)
      obtain ⟨hjun, oj, hoj, hall⟩ := mem_ready.1 hj
      have hun := (mem_ready.1 hr).1
      have hnot : ∀ e ∈ oj.after, Region.binds md e = true → e.on ≠ i := fun e he hb heq => by
        have q1 := hall e he hb
        rw [heq] at q1
        rcases Nat.lt_or_ge i listed.size with h' | h'
        · simp [h'] at hun q1; rw [hun] at q1; cases q1
        · simp [Array.getElem?_eq_none h'] at q1
      have hjs : j ∉ sts := fun hm => by
        obtain ⟨e, he, hb, heq⟩ := hst j hm oj hoj
        exact hnot e he hb heq
      have hN2 : noneUp sts ((listed.setIfInBounds i true).setIfInBounds j true) := noneUp_set (noneUp_set hN hist) hjs
      have h2 := wpOp_putIf hoj (hfree j oj hoj hji hjun hnot) (fun cs b => hsel i oi cs b hi) (fun cs b => hsel j oj cs b hoj) hQ hy h1
      refine wpOp_mono (fun a' w' h3 => ⟨fun _ => h3.2.1 hN2, ih (listed.setIfInBounds j true) a' w' ?_ (ready_mono hr (Ne.symm hji)) h3.1 (h3.2.1 hN2) (noneUp_set hN hjs) ?_⟩) h2
      · intro k ok hk hki hku hno
        refine hfree k ok hk hki ?_ hno
        by_cases hjk : j = k
        · rw [← hjk]; exact hjun
        · rw [getD_set_ne true hjk] at hku; exact hku
      · rw [Array.setIfInBounds_comm _ _ hji]
        exact h3.2.2
theorem noneUp_of {listed : Array Bool} (h : sts.all (fun k => !(listed.getD k true)) = true) : noneUp sts listed := fun k hk => by
  have := List.all_eq_true.1 h k hk
  simpa using this
/-- The stores wait for number 'i' (to be reckoned). -/
def waitFor (md : Region.Mode) (ops : Array Oper) (sts : List Nat) (i : Nat) : Bool := sts.all fun k => match ops[k]? with
  | some o => o.after.any fun e => Region.binds md e && e.on == i
  | none => true
theorem waitFor_spec {i : Nat} (h : waitFor md ops sts i = true) : ∀ k, k ∈ sts → ∀ ok, ops[k]? = some ok → ∃ e ∈ ok.after, Region.binds md e = true ∧ e.on = i := fun k hk ok hok => by
  have h1 := List.all_eq_true.1 h k hk
  simp only [hok, Array.any_eq_true'] at h1
  obtain ⟨e, he, h2⟩ := h1
  simp only [Bool.and_eq_true, beq_iff_eq] at h2
  exact ⟨e, he, h2.1, h2.2⟩
theorem wpL_take {i : Nat} {oi : Oper} {v : Value} {fuel : Nat} {listed : Array Bool} {a : Act} {w : World} (hi : ops[i]? = some oi)
    (hs : Region.noSelect ops = true) (hf : Region.free md ops listed i = true) (hr : (Region.ready md ops listed).contains i = true) (hwt : waitFor md ops sts i = true) (hni : sts.contains i = false) (hno : sts.all (fun k => !(listed.getD k true)) = true)
    (hQ : ∀ c a w, Q (.panic c) (a.put oi.dst v) w → Q (.panic c) a w) (hy : YieldsIf P ops S oi v a) (hS : S w)
    (h : wpL P md ops Q S sts fuel (listed.setIfInBounds i true) (a.put oi.dst v) w) : wpL P md ops Q S sts (fuel + 1) listed a w :=
  wpL_first hi (Region.noSelect_spec hs) hQ (fun hm => by rw [List.contains_eq_mem] at hni; simp [hm] at hni) (waitFor_spec hwt) fuel listed a w (Region.free_spec hi hf) (by simpa using hr) hy hS (noneUp_of hno) h
def AllL (P : Program) (md : Region.Mode) (ops : Array Oper) (Q : Exit → Act → World → Prop) (S : World → Prop) (sts : List Nat) (fuel : Nat) (listed : Array Bool) (a : Act) (w : World) (rs : List Nat) : Prop :=
  ∀ i ∈ rs, wpOp P ops Q i (fun a' w' => (noneUp sts (listed.setIfInBounds i true) → S w') ∧ wpL P md ops Q S sts fuel (listed.setIfInBounds i true) a' w') a w
theorem AllL.nil {fuel : Nat} {listed : Array Bool} {a : Act} {w : World} : AllL P md ops Q S sts fuel listed a w [] := fun _ h => by cases h
/-- An operation that is none of the stores: S anew. -/
theorem AllL.cons {fuel : Nat} {listed : Array Bool} {a : Act} {w : World} {i : Nat} {o : Oper} {rs : List Nat} (ho : ops[i]? = some o)
    (h : ∀ K' : Act → World → Prop, Shut (∀ a w, S w → wpL P md ops Q S sts fuel (listed.setIfInBounds i true) a w → K' a w) → if Region.wanted o (yielded ops a.tmps) = true then Oper.wp P o a w K' Q else K' (a.put o.dst undef) w)
    (hs : AllL P md ops Q S sts fuel listed a w rs) : AllL P md ops Q S sts fuel listed a w (i :: rs) := fun j hj => by
  rcases List.mem_cons.1 hj with rfl | hj
  · exact wpOp_step ho (fun K' hK => h K' (fun a w hS hW => hK a w ⟨fun _ => hS, hW⟩))
  · exact hs j hj
/-- From the first of the stores on: S is asked no more. -/
theorem AllL.late {fuel : Nat} {listed : Array Bool} {a : Act} {w : World} {i : Nat} {o : Oper} {rs : List Nat} (ho : ops[i]? = some o) (hup : sts.any (fun k => (listed.setIfInBounds i true).getD k true) = true)
    (h : ∀ K' : Act → World → Prop, Shut (∀ a w, wpL P md ops Q S sts fuel (listed.setIfInBounds i true) a w → K' a w) → if Region.wanted o (yielded ops a.tmps) = true then Oper.wp P o a w K' Q else K' (a.put o.dst undef) w)
    (hs : AllL P md ops Q S sts fuel listed a w rs) : AllL P md ops Q S sts fuel listed a w (i :: rs) := fun j hj => by
  rcases List.mem_cons.1 hj with rfl | hj
  · refine wpOp_step ho (fun K' hK => h K' (fun a w hW => hK a w ⟨fun hN => ?_, hW⟩))
    obtain ⟨k, hk, hk2⟩ := List.any_eq_true.1 hup
    rw [hN k hk] at hk2
    exact absurd hk2 (by simp)
  · exact hs j hj
theorem wpL_ready {rs : List Nat} {fuel : Nat} {listed : Array Bool} {a : Act} {w : World} (hr : Region.ready md ops listed = rs) (hne : rs ≠ [])
    (h : AllL P md ops Q S sts fuel listed a w rs) : wpL P md ops Q S sts (fuel + 1) listed a w := ⟨fun h0 => absurd (hr ▸ h0) hne, hr ▸ h⟩
theorem wpL_done {listed : Array Bool} {a : Act} {w : World} (hr : Region.ready md ops listed = []) (h : Q .normal a w) : ∀ fuel, wpL P md ops Q S sts fuel listed a w
  | 0 => ⟨hr, h⟩
  | _ + 1 => ⟨fun _ => h, by rw [hr]; simp⟩
theorem wp_region_late (sts : List Nat) (S : World → Prop) {id : Nat} {a : Act} {w : World} (hm : P.follows .mixedOrders = true) (h : wpL P .any ops Q S sts ops.size (Array.replicate ops.size false) a w.drew) : (Code.region id ops true).wp P Q a w :=
  wp_region_any hm (wpL_any _ _ _ _ h)
theorem noneUp_back {listed : Array Bool} {i : Nat} (hi : i ∉ sts) (h : noneUp sts listed) : noneUp sts (listed.setIfInBounds i true) := noneUp_set h hi
/-- An operation that yields in every world. -/
theorem wpL_firstT {i : Nat} {oi : Oper} {v : Value} (hi : ops[i]? = some oi) (hsel : ∀ (j : Nat) (o : Oper) cs b, ops[j]? = some o → o.op ≠ .select cs b)
    (hQ : ∀ c a w, Q (.panic c) (a.put oi.dst v) w → Q (.panic c) a w) (hist : i ∉ sts) :
    ∀ (fuel : Nat) (listed : Array Bool) (a : Act) (w : World),
      (∀ j oj, ops[j]? = some oj → j ≠ i → listed.getD j true = false → (∀ e ∈ oj.after, Region.binds md e = true → e.on ≠ i) → oi.apart ops oj = true) →
      i ∈ Region.ready md ops listed → YieldsIf P ops (fun _ => True) oi v a → (noneUp sts listed → S w) →
      wpL P md ops Q S sts fuel (listed.setIfInBounds i true) (a.put oi.dst v) w → wpL P md ops Q S sts (fuel + 1) listed a w := by
  intro fuel
  have hback : ∀ listed : Array Bool, noneUp sts (listed.setIfInBounds i true) → noneUp sts listed := fun listed h k hk => by
    have hne : i ≠ k := fun e => hist (e ▸ hk)
    have := h k hk
    rw [← this]
    simp [Array.getD_eq_getD_getElem?, hne]
  induction fuel with
  | zero =>
    intro listed a w _ hr hy hS H
    refine ⟨fun h => (by rw [h] at hr; cases hr), fun j hj => ?_⟩
    by_cases hji : j = i
    · rw [hji]; exact hy.wpOp hi trivial ⟨fun hN => hS (hback _ hN), H⟩
    · have := ready_mono hj hji
      rw [H.1] at this
      cases this
  | succ fuel ih =>
    intro listed a w hfree hr hy hS H
    refine ⟨fun h => (by rw [h] at hr; cases hr), fun j hj => ?_⟩
    by_cases hji : j = i
    · rw [hji]; exact hy.wpOp hi trivial ⟨fun hN => hS (hback _ hN), H⟩
    · have h1 := H.2 j (ready_mono hj hji)
      obtain ⟨hjun, oj, hoj, hall⟩ := mem_ready.1 hj
      have hun := (mem_ready.1 hr).1
      have hnot : ∀ e ∈ oj.after, Region.binds md e = true → e.on ≠ i := fun e he hb heq => by
        have q1 := hall e he hb
        rw [heq] at q1
        rcases Nat.lt_or_ge i listed.size with h' | h'
        · simp [h'] at hun q1; rw [hun] at q1; cases q1
        · simp [Array.getElem?_eq_none h'] at q1
      have h2 := wpOp_putIf hoj (hfree j oj hoj hji hjun hnot) (fun cs b => hsel i oi cs b hi) (fun cs b => hsel j oj cs b hoj) hQ hy h1
      have hS2 : ∀ w' : World, (noneUp sts ((listed.setIfInBounds i true).setIfInBounds j true) → S w') → noneUp sts (listed.setIfInBounds j true) → S w' := fun w' h hN =>
        h (by rw [Array.setIfInBounds_comm _ _ (Ne.symm hji)]; exact noneUp_set hN hist)
      refine wpOp_mono (fun a' w' h3 => ⟨hS2 w' h3.2.1, ih (listed.setIfInBounds j true) a' w' ?_ (ready_mono hr (Ne.symm hji)) h3.1 (hS2 w' h3.2.1) ?_⟩) h2
      · intro k ok hk hki hku hno
        refine hfree k ok hk hki ?_ hno
        by_cases hjk : j = k
        · rw [← hjk]; exact hjun
        · rw [getD_set_ne true hjk] at hku; exact hku
      · rw [Array.setIfInBounds_comm _ _ hji]
        exact h3.2.2
theorem wpL_takeT {i : Nat} {oi : Oper} {v : Value} {fuel : Nat} {listed : Array Bool} {a : Act} {w : World} (hi : ops[i]? = some oi)
    (hs : Region.noSelect ops = true) (hf : Region.free md ops listed i = true) (hr : (Region.ready md ops listed).contains i = true) (hni : sts.contains i = false)
    (hQ : ∀ c a w, Q (.panic c) (a.put oi.dst v) w → Q (.panic c) a w) (hy : YieldsIf P ops (fun _ => True) oi v a) (hS : noneUp sts listed → S w)
    (h : wpL P md ops Q S sts fuel (listed.setIfInBounds i true) (a.put oi.dst v) w) : wpL P md ops Q S sts (fuel + 1) listed a w :=
  wpL_firstT hi (Region.noSelect_spec hs) hQ (fun hm => by rw [List.contains_eq_mem] at hni; simp [hm] at hni) fuel listed a w (Region.free_spec hi hf) (by simpa using hr) hy hS h
end
end Go.Proofs.YtphppahjkcnjlaaDoor.Q
