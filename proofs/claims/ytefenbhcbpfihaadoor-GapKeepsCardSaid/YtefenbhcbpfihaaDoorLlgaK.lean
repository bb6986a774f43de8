-- GapKeeps: the plain law, told of its walk.
-- NEEDS pendulum/pendulumlaw21.GapKeeps
-- PLAIN
import Derived.Test.YtefenbhcbpfihaaDoorM0
import Derived.Test.YtefenbhcbpfihaaDoorQ26
import Derived.Test.YtefenbhcbpfihaaDoorHgapC
import Derived.Test.YtefenbhcbpfihaaDoorHgapK
import Derived.Test.YtefenbhcbpfihaaDoorM17
import Derived.Test.YtefenbhcbpfihaaDoorLgapQ
import Derived.Test.YtefenbhcbpfihaaDoorLsetS
namespace Go.Proofs.YtefenbhcbpfihaaDoor.Q
open Go.RowKit Go.Proofs.YtefenbhcbpfihaaDoorW.PrintWords Go.Proofs.YtefenbhcbpfihaaDoorW.PrintLast Go.Proofs.YtefenbhcbpfihaaDoorW.PrintMore
attribute [local go_sem] max2_int min2_int max_two min_two max_three min_three max_four min_four   -- for this text's walks alone
set_option linter.unusedVariables false
set_option linter.unusedSimpArgs false

theorem gk_l1 {b : Int} {ts : List TK} (hn : ts.length ≤ 16) (ok : Bool) (late : Int) (o : List Int) (ho : o.length ≤ 100) : ∀ (n i k : Nat), i + n = o.length → n + 100 < k → pendulumlaw21_GapKeeps.l1 k o (i : Int) b ts b ts ok late o = some true
 | 0, i, k, hi, hk => by
  obtain ⟨k, rfl⟩ : ∃ j, k = j + 1 := ⟨k - 1, by omega⟩
  rw [pendulumlaw21_GapKeeps.l1, if_neg (by omega), same_eq b ts b ts (by omega) (by omega) k (by omega), sameB_self]
  rfl
 | n + 1, i, k, hi, hk => by
  obtain ⟨k, rfl⟩ : ∃ j, k = j + 1 := ⟨k - 1, by omega⟩
  rw [pendulumlaw21_GapKeeps.l1, if_pos (by omega), if_pos (by omega), if_pos (by omega), if_pos rfl, show wrap64 ((i : Int) + 1) = ((i + 1 : Nat) : Int) by rw [w64_ok (by omega) (by omega)]; omega]
  exact gk_l1 hn ok late o ho n (i + 1) k (by omega) (by omega)
theorem gk_l0 {b : Int} {ts : List TK} (hn : ts.length ≤ 16) (r1 : Int) (r2 : Bool) (r3 : Int) (r4 : List Int) (r5 : Int) (hl : gap_Least.f b ts = some (r1, r2, r3, r4, r5)) (h4 : r4.length ≤ 100) : ∀ (n i k : Nat) (ok : Bool) (late : Int) (o : List Int), i + n = o.length → o.length ≤ 100 → n + 300 < k →
  pendulumlaw21_GapKeeps.l0 k r4 (i : Int) b ts b ts ok late o = some true
 | 0, i, k, ok, late, o, hi, ho, hk => by
  obtain ⟨k, rfl⟩ : ∃ j, k = j + 1 := ⟨k - 1, by omega⟩
  rw [pendulumlaw21_GapKeeps.l0, if_neg (by omega), hl]
  simp only [Option.bind_some]
  exact gk_l1 hn r2 r3 r4 h4 r4.length 0 k (by omega) (by omega)
 | n + 1, i, k, ok, late, o, hi, ho, hk => by
  obtain ⟨k, rfl⟩ : ∃ j, k = j + 1 := ⟨k - 1, by omega⟩
  rw [pendulumlaw21_GapKeeps.l0, if_pos (by omega), if_pos (by omega), show wrap64 ((i : Int) + 1) = ((i + 1 : Nat) : Int) by rw [w64_ok (by omega) (by omega)]; omega]
  exact gk_l0 hn r1 r2 r3 r4 r5 hl h4 n (i + 1) k ok late _ (by rw [List.length_set]; omega) (by rw [List.length_set]; omega) (by omega)
theorem gk_end {b : Int} {ts : List TK} (hn : ts.length ≤ 16) (r1 : Int) (r2 : Bool) (r3 : Int) (r4 : List Int) (r5 : Int) (hl : gap_Least.f b ts = some (r1, r2, r3, r4, r5)) (h4 : r4.length ≤ 100) (k : Nat) (hk : 1000 < k) : pendulumlaw21_GapKeeps.j0 k false b ts = some true := by
 obtain ⟨k, rfl⟩ : ∃ j, k = j + 1 := ⟨k - 1, by omega⟩
 rw [pendulumlaw21_GapKeeps.j0, if_neg (by decide)]
 simp only [Option.bind_some, List.nil_append, List.length_nil, Nat.zero_add]
 rw [if_pos (by omega), hl]
 simp only [Option.bind_some]
 rw [if_pos (by omega)]
 exact gk_l0 hn r1 r2 r3 r4 r5 hl h4 r4.length 0 k r2 r3 r4 (by omega) (by omega) (by omega)
theorem GapKeeps_pure (b : Int) (ts : List TK) : pendulumlaw21_GapKeeps.f (20000 + 3) b ts = some true := by
 obtain ⟨k, hk, hkk⟩ : ∃ k, 20000 = k ∧ 20000 ≤ k := ⟨_, rfl, Nat.le_refl _⟩
 rw [hk]
 unfold pendulumlaw21_GapKeeps.f
 unfold pendulumlaw21_awake.f
 simp only [Option.bind_some, if_true]
 rw [small_eq b ts _ (by omega)]
 simp only [Option.bind_some]
 cases hs : smallB ts with
 | false => rw [if_neg (by decide), pendulumlaw21_GapKeeps.j0, if_pos rfl]; rfl
 | true =>
  rw [if_pos rfl, right_eq]
  simp only [Option.bind_some]
  by_cases hr : RightS b ts
  ·have hn := hr.n1
   rw [(rightS_iff b ts).2 hr, show (!((0 : Int) == 0)) = false from rfl]
   by_cases hN : gapI b ts < 1049576
   ·exact gk_end hn _ _ _ _ _ (least_ok hr hN) (by rw [jdg_len]; omega) _ (by omega)
   ·exact gk_end hn _ _ _ _ _ (least_none hr hN) (by rw [jdg_len]; omega) _ (by omega)
  ·have hn : ((whyS b ts).1 == 0) = false := beq_eq_false_iff_ne.2 (fun e => hr ((rightS_iff b ts).1 e))
   rw [hn, show (!false) = true from rfl, pendulumlaw21_GapKeeps.j0, if_pos rfl]; rfl
theorem GapKeeps_law (b : Int) (A : Option Addr) (c : Nat) (ts : List TK) (W : World) (hC : Kd.C k39 W A ts.length ts) (hc : ts.length ≤ c) (_ : ∀ t ∈ ts, okTask t) (_ : (Lit.int .i64 b).wf = true) :
  Calls Tryd.prog 5 #[.agg #[.int .i64 b, .slice A ts.length c]] W fun e w' => e = .returned (.bool true) ∧ Below W.heap.size W w' :=
 pendulumlaw21_GapKeeps.calls (20000 + 3) b A c ts true W hC hc (GapKeeps_pure b ts) rfl
end Go.Proofs.YtefenbhcbpfihaaDoor.Q
