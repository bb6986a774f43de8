-- The search in a sorted row of whole numbers, through a function value that only reads: walked by hand.
-- NEEDS pendulum/pendulumref03.Find
import Derived.Test.YtncmfomhigielaaDoorQ0
import Derived.OpenShut
import Derived.WalkSpells
import Derived.IntWalk
namespace Go.Proofs.YtncmfomhigielaaDoor.Q
open Go.RowKit Go.Proofs.YtncmfomhigielaaDoorW.PrintWords Go.Proofs.YtncmfomhigielaaDoorW.PrintLast Go.Proofs.YtncmfomhigielaaDoorW.PrintMore
attribute [local go_sem] max2_int min2_int max_two min_two max_three min_three max_four min_four   -- for this text's walks alone
set_option linter.unusedVariables false
set_option linter.unusedSimpArgs false

/-- How many of a row stand ahead of what is sought. -/
def ahead (cf : Int → Int) (os : List Int) : Nat := os.countP (fun i => decide (cf i < 0))
def found (cf : Int → Int) (os : List Int) : Bool := decide (ahead cf os < os.length) && decide (cf (rd os (ahead cf os : Int)) = 0)
theorem ahead_is (cf : Int → Int) : ∀ (os : List Int) (i : Nat), i ≤ os.length → (∀ t : Nat, t < i → cf (rd os (t : Int)) < 0) → (∀ t : Nat, i ≤ t → t < os.length → 0 ≤ cf (rd os (t : Int))) → ahead cf os = i
  | [], i, hi, _, _ => by simp at hi; simp [ahead, hi]
  | a :: r, 0, _, _, h2 => by
    unfold ahead
    rw [List.countP_eq_zero]
    intro x hx
    obtain ⟨t, ht, rfl⟩ := List.getElem_of_mem hx
    have := h2 t (Nat.zero_le _) ht
    simp only [rd, Int.toNat_natCast, List.getD_eq_getElem?_getD, List.getElem?_eq_getElem ht, Option.getD_some] at this
    simp; omega
  | a :: r, i + 1, hi, h1, h2 => by
    have ha : cf a < 0 := by simpa [rd] using h1 0 (Nat.succ_pos _)
    have := ahead_is cf r i (by simpa using hi) (fun t ht => by have := h1 (t + 1) (by omega); simpa [rd] using this) (fun t h3 h4 => by have := h2 (t + 1) (by omega) (by simpa using h4); simpa [rd] using this)
    unfold ahead at *
    rw [List.countP_cons_of_pos (by simpa using ha), this]
theorem rd_mem_int (os : List Int) (t : Nat) (h : t < os.length) : rd os (t : Int) ∈ os := by
  simp only [rd, Int.toNat_natCast, List.getD_eq_getElem?_getD, List.getElem?_eq_getElem h, Option.getD_some]
  exact List.getElem_mem h
set_option maxHeartbeats 4000000 in
set_option maxRecDepth 100000 in
theorem search_any (W : World) (A : Option Addr) (c : Nat) (os : List Int) (name : ByteArray) (cb : Array Value) (cf : Int → Int) (g : Nat) (eg : ∀ args w, (callFunc g args).run Tryd.prog w = .ok (.enter g args) w) (hos : Kd.C (Kd.int .i64) W A os.length os) (hc : os.length ≤ c) (hlen : os.length ≤ 1000000)
    (hcmp : ∀ i, i ∈ os → ∀ nd, Calls Tryd.prog g (#[.int .i64 i, .string name] ++ cb) (W.drewN nd) fun e w' => e = .returned (.int .i64 (cf i)) ∧ ∃ m, w' = (W.drewN nd).drewN m)
    (hmono : ∀ a b : Nat, a ≤ b → b < os.length → cf (rd os (b : Int)) < 0 → cf (rd os (a : Int)) < 0) :
    Calls Tryd.prog 30 #[.slice A os.length c, .string name, .func (.func g) #[] cb] W fun e w' => e = .returned (.tuple #[.int .i64 (ahead cf os : Nat), .bool (found cf os)]) ∧ ∃ m, w' = W.drewN m := by
  have HC := Aside0.mk hcmp
  have HM := Aside0.mk hmono
  have HO := Aside0.mk hos
  clear hcmp hmono hos
  go_enter Tryd.func30, Tryd.ntmps30
  go_wp2
  go_loopg [9, 10] os.length (fun kx s9 s10 wr => ∃ lo hi : Nat, s9 = .int .i64 lo ∧ s10 = .int .i64 hi ∧ lo ≤ hi ∧ hi ≤ os.length ∧ hi - lo ≤ kx ∧ (∃ m, wr = W.drewN m) ∧
    Aside0 ((∀ t : Nat, t < lo → cf (rd os (t : Int)) < 0) ∧ (∀ t : Nat, hi ≤ t → t < os.length → 0 ≤ cf (rd os (t : Int)))))
  case atStart => exact ⟨0, os.length, rfl, rfl, Nat.zero_le _, Nat.le_refl _, by omega, ⟨0, rfl⟩, ⟨fun t ht => absurd ht (Nat.not_lt_zero _), fun t h1 h2 => by omega⟩⟩
  case round =>
    obtain ⟨lo, hi, rfl, rfl, hlh, hin, hg, ⟨nd, rfl⟩, I⟩ := hrel
    by_cases hlt : lo < hi
    · have hd : decide ((lo : Int) < (hi : Int)) = true := by simp; omega
      obtain ⟨ad, e, hcl⟩ := Kd.at_int HO.out (((lo : Int) + (hi : Int)) / 2) (by omega) (by omega)
      cases e
      have p0 : (0 : Int) ≤ ((lo : Int) + (hi : Int)) / 2 := by omega
      have p1 : ((lo : Int) + (hi : Int)) / 2 < (os.length : Int) := by omega
      obtain ⟨md, hmd⟩ : ∃ md : Nat, ((lo : Int) + (hi : Int)) / 2 = (md : Int) := ⟨(lo + hi) / 2, by omega⟩
      have hm1 : lo ≤ md ∧ md < hi := by omega
      have hmem := rd_mem_int os md (by omega)
      rw [← hmd] at hmem
      have MD := Aside0.mk hmd
      have MM := Aside0.mk hmem
      have MI := Aside0.mk hm1
      obtain ⟨y, hy⟩ : ∃ y, rd os (((lo : Int) + (hi : Int)) / 2) = y := ⟨_, rfl⟩
      rw [hy] at hcl
      rw [show (((lo : Int) + (hi : Int)) / 2).toNat = (lo + hi) / 2 by omega] at hcl
      have Y0 := Aside0.mk hy
      rw [hmd] at hy
      have Y := Aside0.mk hy
      have HK := Aside0.mk hlt
      have hc := HC.out y (by rw [← hy, ← hmd]; exact hmem) nd
      clear hmem hm1 hy hmd
      by_cases hyx : cf y < 0
      · have dy : decide (cf y < 0) = true := decide_eq_true hyx
        have HY := Aside0.mk hyx
        go_wp2
        refine hc.mono ?_
        rintro e w' ⟨rfl, nq, rfl⟩
        go_wp2
        go_roundg (hi - (md + 1))
        case measure => have := MI.out; omega
        case rel =>
          have := MI.out
          have := MD.out; exact ⟨md + 1, hi, by rw [this]; go_num, rfl, by omega, hin, Nat.le_refl _, ⟨nd + nq, rfl⟩, ⟨fun t ht => HM.out t md (by omega) (by omega) (by rw [Y.out]; exact HY.out), I.out.2⟩⟩
      · have dy : decide (cf y < 0) = false := decide_eq_false hyx
        have HY := Aside0.mk hyx
        go_wp2
        refine hc.mono ?_
        rintro e w' ⟨rfl, nq, rfl⟩
        go_wp2
        go_roundg (md - lo)
        case measure => have := MI.out; omega
        case rel =>
          have := MI.out
          have := MD.out; exact ⟨lo, md, rfl, by rw [this], by omega, by omega, Nat.le_refl _, ⟨nd + nq, rfl⟩, ⟨I.out.1, fun t ht htn => by have h2 := HY.out; have h3 := HM.out md t ht htn; rw [Y.out] at h3; omega⟩⟩
    · obtain rfl : hi = lo := by omega
      have hd : decide ((hi : Int) < (hi : Int)) = false := by simp
      have ecnt : ahead cf os = hi := ahead_is cf os hi hin I.out.1 I.out.2
      have EC := Aside0.mk ecnt
      by_cases hn : hi < os.length
      · have hd2 : decide ((hi : Int) < (os.length : Int)) = true := by simp; omega
        obtain ⟨ad, e, hcl⟩ := Kd.at_int HO.out (hi : Int) (by omega) (by omega)
        cases e
        have p0 : (0 : Int) ≤ (hi : Int) := by omega
        have p1 : (hi : Int) < (os.length : Int) := by omega
        have hmem := rd_mem_int os hi hn
        obtain ⟨y, hy⟩ : ∃ y, rd os (hi : Int) = y := ⟨_, rfl⟩
        rw [hy] at hcl hmem
        simp only [Int.toNat_natCast] at hcl
        have Y := Aside0.mk hy
        have MM := Aside0.mk hmem
        have HN := Aside0.mk hn
        have hc := HC.out y hmem nd
        clear ecnt hmem hy
        by_cases hyx : cf y = 0
        · have HB := Aside0.mk hyx
          go_wp2
          refine hc.mono ?_
          rintro e w' ⟨rfl, nq, rfl⟩
          go_wp2
          go_ret2
          refine ⟨?_, nd + nq, rfl⟩
          unfold found
          rw [EC.out, Y.out, decide_eq_true HN.out, decide_eq_true HB.out]
          rfl
        · have HB := Aside0.mk hyx
          go_wp2
          refine hc.mono ?_
          rintro e w' ⟨rfl, nq, rfl⟩
          go_wp2
          go_ret2
          refine ⟨?_, nd + nq, rfl⟩
          unfold found
          rw [EC.out, Y.out, decide_eq_true HN.out, decide_eq_false HB.out, show (cf y == 0) = false from beq_eq_false_iff_ne.2 HB.out]
          rfl
      · have hd2 : decide ((hi : Int) < (os.length : Int)) = false := by simp; omega
        have HN := Aside0.mk hn
        clear ecnt
        go_wp2
        go_ret2
        refine ⟨?_, nd, rfl⟩
        unfold found
        rw [EC.out, decide_eq_false HN.out]
        rfl
end Go.Proofs.YtncmfomhigielaaDoor.Q
