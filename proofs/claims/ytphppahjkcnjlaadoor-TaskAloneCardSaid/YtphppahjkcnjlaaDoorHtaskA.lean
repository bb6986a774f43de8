-- Whether a task behind others has a name, or a priority, of its own: walked by hand.
-- NEEDS pendulum/task.in pendulum/index.Named
import Derived.Test.YtphppahjkcnjlaaDoorQ0
import Derived.Test.YtphppahjkcnjlaaDoorLtask
import Derived.Test.YtphppahjkcnjlaaDoorLtask
import Derived.OpenShut
import Derived.WalkSpells
import Derived.IntWalk
namespace Go.Proofs.YtphppahjkcnjlaaDoor.Q
open Go.RowKit Go.Proofs.YtphppahjkcnjlaaDoorW.PrintWords Go.Proofs.YtphppahjkcnjlaaDoorW.PrintLast Go.Proofs.YtphppahjkcnjlaaDoorW.PrintMore
attribute [local go_sem] max2_int min2_int max_two min_two max_three min_three max_four min_four   -- for this text's walks alone
set_option linter.unusedVariables false
set_option linter.unusedSimpArgs false

def tkC (x : TK) : Array Value := #[.string x.f0, .int .i64 x.f1, .int .i64 x.f2, .int .i64 x.f3, .int .i64 x.f4, .int .i64 x.f5, .int .i64 x.f6, .int .i64 x.f7, .int .i64 x.f8, .int .i64 x.f9, .int .i64 x.f10]
def tkV (x : TK) : Value := .agg (tkC x)
theorem any_take {α : Type} (p : α → Bool) : ∀ (l : List α) (i : Nat) (h : i < l.length), l.any p = ((l.take i).any p || p l[i] || (l.drop (i + 1)).any p) := fun l i h => by
  have := List.take_append_drop i l
  conv => lhs; rw [← this]
  rw [List.any_append, List.drop_eq_getElem_cons h, List.any_cons, Bool.or_assoc]
set_option maxHeartbeats 1000000 in
set_option maxRecDepth 100000 in
theorem index_any (W : World) (A : Option Addr) (c : Nat) (xs : List TK) (cb : Array Value) (pr : TK → Bool) (g : Nat) (eg : ∀ args w, (callFunc g args).run Tryd.prog w = .ok (.enter g args) w) (hxs : Kd.C k32 W A xs.length xs) (hc : xs.length ≤ c) (hlen : xs.length ≤ 1000000)
    (hcmp : ∀ x, ∀ W', Below W.heap.size W W' → Calls Tryd.prog g (#[tkV x] ++ cb) W' fun e w' => e = .returned (.bool (pr x)) ∧ Below W'.heap.size W' w') :
    Calls Tryd.prog 50 #[.slice A xs.length c, .func (.func g) #[] cb] W fun e w' => ∃ r : Int, e = .returned (.int .i64 r) ∧ (decide (r ≥ 0) = xs.any pr) ∧ Below W.heap.size W w' := by
  have HC := Aside0.mk hcmp
  have HX := Aside0.mk hxs
  clear hcmp hxs
  go_enter Tryd.func50, Tryd.ntmps50
  go_wp2
  go_loopg [8] xs.length (fun kx v8 wr => ∃ i : Nat, v8 = .int .i64 i ∧ i + kx = xs.length ∧ Aside0 ((xs.take i).any pr = false) ∧ Aside0 (Below W.heap.size W wr))
  case atStart => exact ⟨0, rfl, by omega, ⟨by simp⟩, ⟨Below.refl _ _⟩⟩
  case round =>
    obtain ⟨i, rfl, hik, HN, HB⟩ := hrel
    by_cases hlt : i < xs.length
    · have hd : decide ((i : Int) < (xs.length : Int)) = true := by simp; omega
      obtain ⟨ad, e, x0, x1, x2, x3, x4, x5, x6, x7, x8, x9, x10⟩ := at_T32 (Kd.C_below HX.out HB.out) (i : Int) (by omega) (by omega)
      cases e
      simp only [Int.toNat_natCast] at x0 x1 x2 x3 x4 x5 x6 x7 x8 x9 x10
      obtain ⟨x, hx⟩ : ∃ x, rd_T32 xs (i : Int) = x := ⟨_, rfl⟩
      have HXI : Aside0 (xs[i]? = some x) := ⟨by rw [← hx]; simp [rd_T32, List.getD_eq_getElem?_getD, List.getElem?_eq_getElem hlt]⟩
      rw [hx] at x0 x1 x2 x3 x4 x5 x6 x7 x8 x9 x10
      have hcl := HC.out x wr HB.out
      have p0 : (0 : Int) ≤ i := by omega
      have p1 : (i : Int) < (xs.length : Int) := by omega
      clear hx
      go_wp2
      refine hcl.mono ?_
      rintro e w' ⟨rfl, hb⟩
      have HB2 := Aside0.mk (below_step HB.out hb)
      cases hp : pr x with
      | true =>
        have HA : Aside0 (xs.any pr = true) := ⟨List.any_eq_true.2 ⟨x, List.mem_of_getElem? HXI.out, hp⟩⟩
        clear hcl hb HB hp
        go_wp2
        go_ret
        exact ⟨i, rfl, by rw [HA.out]; simp, HB2.out⟩
      | false =>
        have HN2 : Aside0 ((xs.take (i + 1)).any pr = false) := ⟨by
          have h := HXI.out
          rw [List.getElem?_eq_getElem hlt] at h
          rw [List.take_succ_eq_append_getElem hlt, List.any_append, HN.out, Option.some.inj h]
          simp [hp]⟩
        clear hcl hb HB hp HN
        go_wp2
        go_roundg (xs.length - (i + 1))
        case measure => omega
        case rel => exact ⟨i + 1, by first | rfl | simp, by omega, HN2, HB2⟩
    · have hd : decide ((i : Int) < (xs.length : Int)) = false := by simp; omega
      have HA : Aside0 (xs.any pr = false) := ⟨by have := HN.out; rwa [List.take_of_length_le (by omega)] at this⟩
      go_wp2
      go_ret
      exact ⟨-1, rfl, by rw [HA.out]; rfl, HB.out⟩
set_option maxHeartbeats 1000000 in
set_option maxRecDepth 100000 in
theorem contains_any (W : World) (A : Option Addr) (c : Nat) (xs : List TK) (cb : Array Value) (pr : TK → Bool) (g : Nat) (eg : ∀ args w, (callFunc g args).run Tryd.prog w = .ok (.enter g args) w) (hxs : Kd.C k32 W A xs.length xs) (hc : xs.length ≤ c) (hlen : xs.length ≤ 1000000)
    (hcmp : ∀ x, ∀ W', Below W.heap.size W W' → Calls Tryd.prog g (#[tkV x] ++ cb) W' fun e w' => e = .returned (.bool (pr x)) ∧ Below W'.heap.size W' w') :
    Calls Tryd.prog 36 #[.slice A xs.length c, .func (.func g) #[] cb] W fun e w' => e = .returned (.bool (xs.any pr)) ∧ Below W.heap.size W w' := by
  have H := Aside0.mk (index_any W A c xs cb pr g eg hxs hc hlen hcmp)
  clear hxs hcmp
  go_enter Tryd.func36, Tryd.ntmps36
  go_wp2_with fail
  refine H.out.mono ?_
  rintro e w' ⟨r, rfl, hr, hb⟩
  have HB := Aside0.mk hb
  have HR := Aside0.mk hr
  clear hb hr H
  go_wp2_with fail
  go_ret
  exact ⟨by rw [← HR.out]; rfl, HB.out⟩
set_option maxHeartbeats 1000000 in
set_option maxRecDepth 100000 in
theorem named_same (t x : TK) (b : Nat) (W : World) (hb : W.heap[b]? = some (.cells (tkC t) 32 (0, 0))) :
    Calls Tryd.prog 37 (#[tkV x] ++ #[.pointer (some ⟨b, 0, none⟩)]) W fun e w' => e = .returned (.bool (x.f0.toList == t.f0.toList)) ∧ Below W.heap.size W w' := by
  have HB := Aside0.mk (Below.refl W.heap.size W)
  have x0 : ∀ o, (W.alloc o).cell? ⟨b, 0, none⟩ = some (.string t.f0) := fun o => blk_cell (blk_alloc hb o) 0
  clear hb
  unfold tkV tkC
  go_enter Tryd.func37, Tryd.ntmps37
  go_wp2
  go_ret
  exact ⟨rfl, by repeat (first | exact HB.out | apply below_drew | apply below_alloc)⟩
set_option maxHeartbeats 1000000 in
set_option maxRecDepth 100000 in
theorem ranked_same (t x : TK) (b : Nat) (W : World) (hb : W.heap[b]? = some (.cells (tkC t) 32 (0, 0))) :
    Calls Tryd.prog 38 (#[tkV x] ++ #[.pointer (some ⟨b, 0, none⟩)]) W fun e w' => e = .returned (.bool (x.f10 == t.f10)) ∧ Below W.heap.size W w' := by
  have HB := Aside0.mk (Below.refl W.heap.size W)
  have x0 : ∀ o, (W.alloc o).cell? ⟨b, 10, none⟩ = some (.int .i64 t.f10) := fun o => blk_cell (blk_alloc hb o) 10
  clear hb
  unfold tkV tkC
  go_enter Tryd.func38, Tryd.ntmps38
  go_wp2
  go_ret
  exact ⟨rfl, by repeat (first | exact HB.out | apply below_drew | apply below_alloc)⟩
end Go.Proofs.YtphppahjkcnjlaaDoor.Q
