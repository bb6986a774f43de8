-- An index in memory; where a name stands, or would: walked by hand.
import Derived.Test.YtncmfomhigielaaDoorQ0
import Derived.Test.YtncmfomhigielaaDoorHidxA
import Derived.Test.YtncmfomhigielaaDoorHidxA
import Derived.Test.YtncmfomhigielaaDoorShelf
import Derived.WalkSpells
namespace Go.Proofs.YtncmfomhigielaaDoor.Q
open Go.RowKit Go.Proofs.YtncmfomhigielaaDoorW.PrintWords Go.Proofs.YtncmfomhigielaaDoorW.PrintLast Go.Proofs.YtncmfomhigielaaDoorW.PrintMore
attribute [local go_sem] max2_int min2_int max_two min_two max_three min_three max_four min_four   -- for this text's walks alone
set_option linter.unusedVariables false
set_option linter.unusedSimpArgs false

def IxS (S : Nat → Prop) (W : World) (g : Nat) (v1 v2 : Value) (ns : List ByteArray) (os : List Int) (room : Int) : Prop :=
  W.heap[g]? = some (.cells #[v1, v2, .int .i64 room] 47 (0, 0)) ∧ S g ∧ Kd.R Kd.string 9 W 0 S v1 ns ∧ Kd.R (Kd.int .i64) 3 W 0 S v2 os
variable {S S' : Nat → Prop} {W W' : World} {g : Nat} {v1 v2 : Value} {ns : List ByteArray} {os : List Int} {room : Int}
theorem IxS.mono (h : IxS S W g v1 v2 ns os room) (hs : ∀ k, S k → S' k) : IxS S' W g v1 v2 ns os room := ⟨h.1, hs _ h.2.1, Kd.R_mono h.2.2.1 hs, Kd.R_mono h.2.2.2 hs⟩
theorem IxS.bound (h : IxS S W g v1 v2 ns os room) : IxS (fun k => S k ∧ k < W.heap.size) W g v1 v2 ns os room :=
  ⟨h.1, ⟨h.2.1, blk_lt h.1⟩, Kd.R_mono (Kd.R_bound h.2.2.1) (fun _ hk => ⟨hk.1, hk.2.2.1⟩), Kd.R_mono (Kd.R_bound h.2.2.2) (fun _ hk => ⟨hk.1, hk.2.2.1⟩)⟩
theorem IxS.kept (h : IxS S W g v1 v2 ns os room) (hk : Kept W W' S') (hne : ∀ k, S k → ¬ S' k) : IxS S W' g v1 v2 ns os room :=
  ⟨blk_kept h.1 hk (hne _ h.2.1), h.2.1, Kd.R_kept h.2.2.1 hk hne, Kd.R_kept h.2.2.2 hk hne⟩
theorem IxS.below (h : IxS S W g v1 v2 ns os room) (hb : Below W.heap.size W W') : IxS S W' g v1 v2 ns os room :=
  ⟨blk_below h.1 hb, h.2.1, Kd.R_below h.2.2.1 hb, Kd.R_below h.2.2.2 hb⟩
def cmpS (a b : ByteArray) : Int := Lib.compareBytes a.data.toList b.data.toList
theorem cmp_ask (a b : ByteArray) (w : World) : Calls Tryd.prog 32 #[.string a, .string b] w fun e w' => e = .returned (.int .i64 (cmpS a b)) ∧ w' = w := Any.strings_Compare Tryd.shCompare a b w
/-- What the function value answers of a number. -/
def cfOf (ns : List ByteArray) (name : ByteArray) (i : Int) : Int := cmpS (rdOf ByteArray.empty ns i) name
set_option maxHeartbeats 1000000 in
set_option maxRecDepth 100000 in
theorem place_cmp (hI : IxS S W g v1 v2 ns os room) (b : Nat) (t : TypeId) (hb : W.heap[b]? = some (.cells #[.pointer (some ⟨g, 0, none⟩)] t (0, 0))) (i : Int) (h0 : 0 ≤ i) (h1 : i < (ns.length : Int)) (name : ByteArray) :
    Calls Tryd.prog 31 #[.int .i64 i, .string name, .pointer (some ⟨b, 0, none⟩)] W fun e w' => e = .returned (.int .i64 (cfOf ns name i)) ∧ ∃ m, w' = W.drewN m := by
  obtain ⟨A1, c1, e1, l1, C1⟩ := Kd.R_reads hI.2.2.1
  subst e1
  obtain ⟨ad, e, hx⟩ := Kd.at_string C1 i h0 h1
  cases e
  have x0 := blk_cell hI.1 0
  have x1 := blk_cell hb 0
  clear hI hb C1
  go_enter Tryd.func31, Tryd.ntmps31
  go_wp2_with (refine (cmp_ask (rdOf ByteArray.empty ns i) name W).mono ?_; rintro e w' ⟨rfl, rfl⟩)
  go_ret
  exact ⟨rfl, 0, rfl⟩
/-- The numbers are those of names; what is behind a name that stands ahead stands ahead. -/
def Okx (ns : List ByteArray) (os : List Int) : Prop := os.length ≤ 1000000 ∧ (∀ i, i ∈ os → 0 ≤ i ∧ i < (ns.length : Int)) ∧ ∀ (name : ByteArray) (a b : Nat), a ≤ b → b < os.length → cfOf ns name (rd os (b : Int)) < 0 → cfOf ns name (rd os (a : Int)) < 0
set_option maxHeartbeats 1000000 in
set_option maxRecDepth 100000 in
theorem place_any (hI : IxS S W g v1 v2 ns os room) (hO : Okx ns os) (name : ByteArray) :
    Calls Tryd.prog 21 #[.pointer (some ⟨g, 0, none⟩), .string name] W fun e w' => e = .returned (.tuple #[.int .i64 (ahead (cfOf ns name) os : Nat), .bool (found (cfOf ns name) os)]) ∧ Below W.heap.size W w' := by
  obtain ⟨A2, c2, e2, l2, C2⟩ := Kd.R_reads hI.2.2.2
  subst e2
  have hI1 := hI.below (below_alloc (Below.refl _ _) (.cells #[.pointer (some ⟨g, 0, none⟩)] 26))
  have hb := blk_new W (.cells #[.pointer (some ⟨g, 0, none⟩)] 26)
  have hS : ∀ nd, Calls Tryd.prog 30 #[.slice A2 os.length c2, .string name, .func (.func 31) #[] #[.pointer (some ⟨W.heap.size, 0, none⟩)]] ((W.alloc (.cells #[.pointer (some ⟨g, 0, none⟩)] 26)).drewN nd) fun e w' => e = .returned (.tuple #[.int .i64 (ahead (cfOf ns name) os : Nat), .bool (found (cfOf ns name) os)]) ∧ ∃ m, w' = ((W.alloc (.cells #[.pointer (some ⟨g, 0, none⟩)] 26)).drewN nd).drewN m := fun nd =>
    search_any _ A2 c2 os name _ (cfOf ns name) _ (fun args w => by go_simp; done) (Kd.C_drewN (Kd.C_alloc C2 _) nd) l2 hO.1 (fun i hi n2 => place_cmp (S := S) (v1 := v1) (v2 := .slice A2 os.length c2) (os := os) (room := room) ((hI1.below (pw_below_drewN (Below.refl _ _) nd)).below (pw_below_drewN (Below.refl _ _) n2)) W.heap.size _ (blk_drewN (blk_drewN hb nd) n2) i (hO.2.1 i hi).1 (hO.2.1 i hi).2 name) (hO.2.2 name)
  have x1 := blk_cell (blk_alloc hI.1 (.cells #[.pointer (some ⟨g, 0, none⟩)] 26)) 1
  have HB := Aside0.mk (below_alloc (Below.refl W.heap.size W) (.cells #[.pointer (some ⟨g, 0, none⟩)] 26))
  have HS := Aside0.mk hS
  clear hS hI1 hb hO hI C2
  go_enter Tryd.func21, Tryd.ntmps21
  go_wp2_with fail
  refine (HS.out 0).mono ?_
  rintro e w' ⟨rfl, m, rfl⟩
  go_wp2
  go_ret2
  exact ⟨rfl, pw_below_drewN HB.out m⟩
end Go.Proofs.YtncmfomhigielaaDoor.Q
