-- Whether a text is a name, as index.Named tells it: proved by hand, in the printer's form.
-- HAND pendulum/index.Named rounds=0 making=1
import Derived.Test.YtphppahjkcnjlaaDoorQ0
import Derived.Test.YtphppahjkcnjlaaDoorShelf
import Derived.WalkSpells
namespace Go.Proofs.YtphppahjkcnjlaaDoor.Q
open Go.RowKit Go.Proofs.YtphppahjkcnjlaaDoorW.PrintWords Go.Proofs.YtphppahjkcnjlaaDoorW.PrintLast Go.Proofs.YtphppahjkcnjlaaDoorW.PrintMore
attribute [local go_sem] max2_int min2_int max_two min_two max_three min_three max_four min_four   -- for this text's walks alone
set_option linter.unusedVariables false
set_option linter.unusedSimpArgs false

def nLetters : List UInt8 := [97, 98, 99, 100, 101, 102, 103, 104, 105, 106, 107, 108, 109, 110, 111, 112, 113, 114, 115, 116, 117, 118, 119, 120, 121, 122]
def nOthers : List UInt8 := nLetters ++ [48, 49, 50, 51, 52, 53, 54, 55, 56, 57, 95]
def named (a : ByteArray) : Bool := decide (1 ≤ a.size) && decide (a.size ≤ 12) && (a.data.toList.take 1).all (nLetters.contains ·) && a.data.toList.all (nOthers.contains ·)
def index_Named.f (a0 : ByteArray) : Option Bool := some (named a0)
theorem dw_nil_iff {α : Type} (p : α → Bool) : ∀ l : List α, l.dropWhile p = [] ↔ ∀ x ∈ l, p x = true
  | [] => by simp
  | a :: r => by
    rw [List.dropWhile_cons]
    by_cases h : p a = true
    · rw [if_pos h, dw_nil_iff p r]; simp [h]
    · rw [if_neg h]; simp [h]
theorem trimS_nil_iff (l cs : List UInt8) : (Lib.trimS l cs = []) ↔ l.all (cs.contains ·) = true := by
  unfold Lib.trimS Lib.trimLeftS Lib.trimRightS
  constructor
  · intro h
    have h1 : ∀ x ∈ ((l.reverse.dropWhile (cs.contains ·)).reverse), cs.contains x = true := by
      have := (dw_nil_iff _ _).1 h
      exact this
    have h2 : l.reverse.dropWhile (cs.contains ·) = [] := by
      cases hd : l.reverse.dropWhile (cs.contains ·) with
      | nil => rfl
      | cons x r =>
        have hx : cs.contains x = true := h1 x (by rw [hd]; simp)
        have := List.head_dropWhile_not (p := (cs.contains ·)) (l := l.reverse) (by rw [hd]; simp)
        simp only [hd, List.head_cons] at this
        rw [hx] at this
        exact absurd this (by simp)
    have h3 := (dw_nil_iff _ _).1 h2
    rw [List.all_eq_true]
    intro x hx
    exact h3 x (by simpa using hx)
  · intro h
    rw [List.all_eq_true] at h
    have h2 : l.reverse.dropWhile (cs.contains ·) = [] := (dw_nil_iff _ _).2 (fun x hx => h x (by simpa using hx))
    rw [h2]; rfl
theorem empty_mk (l : List UInt8) : (⟨l.toArray⟩ : ByteArray).toList.isEmpty = l.isEmpty := by rw [Lib.toList_data]
theorem trim_ask (s cs : ByteArray) (w : World) (hs : s.size ≤ 9223372036854775807) (hcs : cs.size < 4294967281) (hascii : ∀ (j : Nat) b, cs.data.toList[j]? = some b → b.toNat < 128) (b : Bool) (hb : s.data.toList.all (cs.data.toList.contains ·) = b) :
    Calls Tryd.prog 49 #[.string s, .string cs] w fun e w' => ∃ t : ByteArray, e = .returned (.string t) ∧ t.toList.isEmpty = b ∧ Below w.heap.size w w' := by
  refine (Any.strings_Trim_laid Tryd.shTrim (by kernel_rfl) s cs w hs hcs hascii).mono fun e w' ⟨he, hB⟩ => ⟨_, he, ?_, hB⟩
  rw [empty_mk]
  cases b with
  | true => rw [(trimS_nil_iff _ _).2 hb]; rfl
  | false =>
    cases hl : Lib.trimS s.data.toList cs.data.toList with
    | nil => rw [(trimS_nil_iff _ _).1 hl] at hb; exact absurd hb (by simp)
    | cons _ _ => rfl
theorem extract_one (s : ByteArray) : (s.extract 0 1).data.toList = s.data.toList.take 1 := by
  rw [ByteArray.data_extract]; simp
set_option maxHeartbeats 1000000 in
set_option maxRecDepth 100000 in
theorem index_Named.calls (l0 : ByteArray) (r1 : Bool) (w : World) (h : index_Named.f l0 = some r1) :
    Calls Tryd.prog 35 #[.string l0] w fun e w' => e = .returned (.bool r1) ∧ Below w.heap.size w w' := by
  have hr := Option.some.inj h
  have HB := Aside0.mk (Below.refl w.heap.size w)
  clear h
  unfold named at hr
  by_cases h1 : 1 ≤ l0.size
  · by_cases h2 : l0.size ≤ 12
    · rw [decide_eq_true h1, decide_eq_true h2] at hr
      rw [Bool.and_self, Bool.true_and] at hr
      have d1 : decide ((l0.size : Int) ≥ 1) = true := by simp; omega
      have d2 : decide ((l0.size : Int) ≤ 12) = true := by simp; omega
      have q1 : (1 : Int) ≤ (l0.size : Int) := by omega
      have H2 := Aside0.mk h2
      have he1 : (l0.extract 0 1).size ≤ 12 := by rw [ByteArray.size_extract]; omega
      have HE1 := Aside0.mk he1
      clear h1 h2 he1
      obtain ⟨b1, hb1⟩ : ∃ b1, (l0.data.toList.take 1).all (nLetters.contains ·) = b1 := ⟨_, rfl⟩
      obtain ⟨b2, hb2⟩ : ∃ b2, l0.data.toList.all (nOthers.contains ·) = b2 := ⟨_, rfl⟩
      rw [hb1, hb2] at hr
      rw [← extract_one] at hb1
      have T1 := Aside0.mk hb1
      have T2 := Aside0.mk hb2
      have HR := Aside0.mk hr
      clear hb1 hb2 hr
      cases b1 with
      | true =>
        go_enter Tryd.func35, Tryd.ntmps35
        go_wp2_with (first
          | (refine (trim_ask (l0.extract 0 1) _ _ (by have := HE1.out; omega) (by decide) (ascii_of_all (by decide)) _ T1.out).mono ?_; rintro e wA ⟨t1, rfl, ht1, hb⟩; have HB1 := Aside0.mk (below_step HB.out hb); clear HB hb T1; have HB := HB1; clear HB1)
          | (refine (trim_ask l0 _ _ (by have := H2.out; omega) (by decide) (ascii_of_all (by decide)) _ T2.out).mono ?_; rintro e wA ⟨t2, rfl, ht2, hb⟩; have HB1 := Aside0.mk (below_step HB.out hb); clear HB hb T2; have HB := HB1; clear HB1))
        go_ret
        exact ⟨by rw [← HR.out]; simp [ht2], HB.out⟩
      | false =>
        go_enter Tryd.func35, Tryd.ntmps35
        go_wp2_with (first
          | (refine (trim_ask (l0.extract 0 1) _ _ (by have := HE1.out; omega) (by decide) (ascii_of_all (by decide)) _ T1.out).mono ?_; rintro e wA ⟨t1, rfl, ht1, hb⟩; have HB1 := Aside0.mk (below_step HB.out hb); clear HB hb T1; have HB := HB1; clear HB1))
        go_ret
        exact ⟨by rw [← HR.out]; simp, HB.out⟩
    · rw [decide_eq_false h2] at hr
      rw [Bool.and_false, Bool.false_and, Bool.false_and] at hr
      have d1 : decide ((l0.size : Int) ≥ 1) = true := by simp; omega
      have d2 : decide ((l0.size : Int) ≤ 12) = false := by simp; omega
      have HR := Aside0.mk hr
      clear h1 h2 hr
      go_enter Tryd.func35, Tryd.ntmps35
      go_wp2
      go_ret
      exact ⟨by rw [← HR.out]; rfl, HB.out⟩
  · rw [decide_eq_false h1] at hr
    rw [Bool.false_and, Bool.false_and, Bool.false_and] at hr
    have d1 : decide ((l0.size : Int) ≥ 1) = false := by simp; omega
    have HR := Aside0.mk hr
    clear h1 hr
    go_enter Tryd.func35, Tryd.ntmps35
    go_wp2
    go_ret
    exact ⟨by rw [← HR.out]; rfl, HB.out⟩
end Go.Proofs.YtphppahjkcnjlaaDoor.Q
