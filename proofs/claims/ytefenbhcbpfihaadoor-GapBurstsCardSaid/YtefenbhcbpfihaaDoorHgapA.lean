-- gap.Least's closures and the search over them (walked by hand).
-- NEEDS pendulum/verdict.Judge
-- PLAIN
import Derived.Test.YtefenbhcbpfihaaDoorM0
import Derived.Test.YtefenbhcbpfihaaDoorQ19
import Derived.Test.YtefenbhcbpfihaaDoorHtaskC
import Derived.Test.YtefenbhcbpfihaaDoorM17
import Derived.IntWalk
import Derived.WalkSpells
namespace Go.Proofs.YtefenbhcbpfihaaDoor.Q
open Go.RowKit Go.Proofs.YtefenbhcbpfihaaDoorW.PrintWords Go.Proofs.YtefenbhcbpfihaaDoorW.PrintLast Go.Proofs.YtefenbhcbpfihaaDoorW.PrintMore
attribute [local go_sem] max2_int min2_int max_two min_two max_three min_three max_four min_four   -- for this text's walks alone
set_option linter.unusedVariables false
set_option linter.unusedSimpArgs false

attribute [local go_sem] run_store_func
theorem big_B {b : Int} {ts : List TK} (h : RightS b ts) : ∀ t ∈ ts, 2 * (t.f2 + 2).toNat < 2097200 := by
 intro t ht
 have h1 := (h.dem t ht).D2
 have h2 := (h.dem t ht).T2
 omega
theorem judge_ask {b : Int} {ts : List TK} {g : Int} (h : RightS b ts) (hg1 : 1 ≤ g) (hg2 : g ≤ 1049576) (A : Option Addr) (c : Nat) (W : World) (hC : Kd.C k39 W A ts.length ts) (hc : ts.length ≤ c) :
  Calls Tryd.prog 13 #[.agg #[.int .i64 b, .slice A ts.length c], .int .i64 g] W fun e w' => ∃ (A2 : Option Addr) (c2 : Nat), e = .returned (.tuple #[.agg #[.bool (jdg b ts g).1, .int .i64 (jdg b ts g).2.1, .slice A2 (jdg b ts g).2.2.length c2], .int .i64 0]) ∧ Kd.R (Kd.int .i64) 3 w' W.heap.size (fun _ => True) (.slice A2 (jdg b ts g).2.2.length c2) (jdg b ts g).2.2 ∧ Below W.heap.size W w' := by
 refine (verdict_Judge.calls 2200000 b A c ts g _ _ _ _ W hC hc (judge_right h hg1 hg2 2097200 (big_B h) 2200000 (by omega))).mono ?_
 rintro e w' ⟨v, rfl, hR, hb⟩
 obtain ⟨A2, c2, rfl, -, -⟩ := Kd.R_reads hR
 exact ⟨A2, c2, rfl, hR, hb⟩
set_option maxHeartbeats 4000000 in
set_option maxRecDepth 100000 in
theorem acc_ask {b : Int} {ts : List TK} {g : Int} (h : RightS b ts) (hg1 : 1 ≤ g) (hg2 : g ≤ 1049576) (A : Option Addr) (c : Nat) (gs : Nat) (W : World) (hC : Kd.C k39 W A ts.length ts) (hc : ts.length ≤ c) (hK : W.heap[gs]? = some (.cells #[.int .i64 b, .slice A ts.length c] 24 (0, 0))) :
  Calls Tryd.prog 18 #[.int .i64 g, .pointer (some ⟨gs, 0, none⟩)] W fun e w' => e = .returned (.bool (accB b ts g)) ∧ Below W.heap.size W w' := by
 have HJ := Aside0.mk (judge_ask h hg1 hg2 A c W hC hc)
 have s0 := blk_cell hK 0
 have s1 := blk_cell hK 1
 obtain ⟨q, hq⟩ : ∃ q, accB b ts g = q := ⟨_, rfl⟩
 have hq2 : (jdg b ts g).1 = q := hq
 obtain ⟨j, hj⟩ : ∃ j, jdg b ts g = j := ⟨_, rfl⟩
 obtain ⟨j1, j2, j3⟩ := j
 rw [hj] at HJ hq2
 simp only at HJ hq2
 subst hq2
 rw [hq]
 clear hC hc hK hq hj h
 go_enter Tryd.func18, Tryd.ntmps18
 go_wp2_with fail
 refine HJ.out.mono ?_
 rintro e w1 ⟨A2, c2, rfl, hR, hb⟩
 have HB := Aside0.mk hb
 clear hR hb s0 s1
 go_wp2_with fail
 go_ret
 exact ⟨rfl, below_alloc HB.out _⟩
set_option maxHeartbeats 4000000 in
set_option maxRecDepth 100000 in
theorem acc2_ask {b : Int} {ts : List TK} (h : RightS b ts) (i : Nat) (hi : i < 1049576) (A : Option Addr) (c : Nat) (gs gf : Nat) (W : World) (hC : Kd.C k39 W A ts.length ts) (hc : ts.length ≤ c) (hK : W.heap[gs]? = some (.cells #[.int .i64 b, .slice A ts.length c] 24 (0, 0)))
  (hF : W.heap[gf]? = some (.cells #[.func (.func 18) #[] #[.pointer (some ⟨gs, 0, none⟩)]] 45 (0, 0))) :
  Calls Tryd.prog 20 (#[.int .i64 (i : Int)] ++ #[.pointer (some ⟨gf, 0, none⟩)]) W fun e w' => e = .returned (.bool (accB b ts ((i : Int) + 1))) ∧ Below W.heap.size W w' := by
 have HA := Aside0.mk (acc_ask h (show (1 : Int) ≤ (i : Int) + 1 by omega) (by omega) A c gs W hC hc hK)
 have s0 := blk_cell hF 0
 have hw : IntKind.i64.wrap ((i : Int) + 1) = (i : Int) + 1 := IntWalk.i64_in _ (by omega)
 clear hC hc hK hF h
 go_enter Tryd.func20, Tryd.ntmps20
 go_wp2_with fail
 refine HA.out.mono ?_
 rintro e w1 ⟨rfl, hb⟩
 have HB := Aside0.mk hb
 clear hb s0
 go_wp2_with fail
 go_ret
 exact ⟨rfl, HB.out⟩
set_option maxHeartbeats 4000000 in
set_option maxRecDepth 100000 in
/-- sort.Search, of whatever function that parts the numbers. -/
theorem search_ask (n : Nat) (g : Nat) (cb : Array Value) (pr : Nat → Bool) (W : World) (eg : ∀ args w, (callFunc g args).run Tryd.prog w = .ok (.enter g args) w) (hn : n ≤ 1000000000)
  (hcmp : ∀ i, i < n → ∀ W', Below W.heap.size W W' → Calls Tryd.prog g (#[.int .i64 (i : Int)] ++ cb) W' fun e w' => e = .returned (.bool (pr i)) ∧ Below W'.heap.size W' w') (hmono : ∀ a c, a ≤ c → c < n → pr a = true → pr c = true) :
  Calls Tryd.prog 19 #[.int .i64 (n : Int), .func (.func g) #[] cb] W fun e w' => ∃ i : Nat, e = .returned (.int .i64 (i : Int)) ∧ i ≤ n ∧ (∀ j, j < i → pr j = false) ∧ (i < n → pr i = true) ∧ Below W.heap.size W w' := by
 have HC := Aside0.mk hcmp
 have HM := Aside0.mk hmono
 clear hcmp hmono
 go_enter Tryd.func19, Tryd.ntmps19
 go_wp2_with fail
 go_loopg [5, 6] n (fun kk v5 v6 wr => ∃ i j : Nat, v5 = .int .i64 i ∧ v6 = .int .i64 j ∧ i + kk = j ∧ j ≤ n ∧ Aside0 (∀ x, x < i → pr x = false) ∧ Aside0 (j < n → pr j = true) ∧ Aside0 (Below W.heap.size W wr))
 case atStart => exact ⟨0, n, rfl, rfl, by omega, Nat.le_refl _, ⟨fun x hx => absurd hx (Nat.not_lt_zero _)⟩, ⟨fun h => absurd h (Nat.lt_irrefl _)⟩, ⟨Below.refl _ _⟩⟩
 case round =>
  obtain ⟨i, j, rfl, rfl, hik, hjn, HL, HU, HB⟩ := hrel
  by_cases hlt : i < j
  ·have hd : decide (i < j) = true := decide_eq_true hlt
   go_upto_region 4 with fail
   obtain ⟨m, hm⟩ : ∃ m : Nat, ((i : Int) + (j : Int)) / 2 = (m : Int) := ⟨(i + j) / 2, by omega⟩
   have hmi : i ≤ m := by omega
   have hmj : m < j := by omega
   rw [hm]
   have HCL := Aside0.mk (HC.out m (by omega) wr HB.out)
   have hwm : IntKind.i64.wrap ((m : Int) + 1) = (m : Int) + 1 := IntWalk.i64_in _ (by omega)
   clear hm
   go_wp2_with fail
   refine HCL.out.mono ?_
   rintro e w2 ⟨rfl, hb⟩
   have HB2 := Aside0.mk (below_step HB.out hb)
   clear hb HB HCL
   cases hp : pr m with
   | true =>
    have HP := Aside0.mk hp
    clear hp
    go_wp2_with fail
    go_roundg (m - i)
    case measure => omega
    case rel => exact ⟨i, m, rfl, by first | rfl | simp, by omega, by omega, HL, ⟨fun _ => HP.out⟩, HB2⟩
   | false =>
    have HP := Aside0.mk hp
    clear hp
    go_wp2_with fail
    go_roundg (j - (m + 1))
    case measure => omega
    case rel =>
     refine ⟨m + 1, j, by first | rfl | simp, rfl, by omega, hjn, ⟨fun x hx => ?_⟩, HU, HB2⟩
     cases hpx : pr x with
     | false => rfl
     | true =>
      have := HM.out x m (by omega) (by omega) hpx
      rw [HP.out] at this
      cases this
  ·have hd : decide (i < j) = false := decide_eq_false hlt
   have hij : i = j := by omega
   subst hij
   go_wp2_with fail
   go_ret
   exact ⟨i, rfl, hjn, HL.out, HU.out, HB.out⟩
end Go.Proofs.YtefenbhcbpfihaaDoor.Q
