-- awake of the index's laws: walked by hand.
-- HAND pendulum/pendulumlaw03.awake rounds=0 making=1
-- NEEDS pendulum/index.Named
import Derived.Test.YtncmfomhigielaaDoorQ0
import Derived.Test.YtncmfomhigielaaDoorHidxC
import Derived.Test.YtncmfomhigielaaDoorHidxS
import Derived.Test.YtncmfomhigielaaDoorHnamed
import Derived.Test.YtncmfomhigielaaDoorLidxM
import Derived.Test.YtncmfomhigielaaDoorHidxC
import Derived.Test.YtncmfomhigielaaDoorHidxS
namespace Go.Proofs.YtncmfomhigielaaDoor.Q
open Go.RowKit Go.Proofs.YtncmfomhigielaaDoorW.PrintWords Go.Proofs.YtncmfomhigielaaDoorW.PrintLast Go.Proofs.YtncmfomhigielaaDoorW.PrintMore
attribute [local go_sem] max2_int min2_int max_two min_two max_three min_three max_four min_four   -- for this text's walks alone
set_option linter.unusedVariables false
set_option linter.unusedSimpArgs false

theorem below_put {W W1 W' : World} {S : Nat → Prop} (hb : Below W.heap.size W W1) (hk : Kept W1 W' S) (h0 : Below 0 W1 W') (hs : ∀ k, S k → W.heap.size ≤ k) : Below W.heap.size W W' :=
  ⟨h0.os.trans hb.os, h0.tape.trans hb.tape, h0.output.trans hb.output, Nat.le_trans hb.size h0.size, fun k hk2 => by
    have h1 := (Kept.of_below hb (fun _ => False)).2 k hk2 (fun h => h)
    have h2 := hk.2 k (Nat.lt_of_lt_of_le hk2 hb.size) (fun h => by have := hs k h; omega)
    exact h2.trans h1⟩
/-- Put, of an index that is newer than a world. -/
theorem put_more {w wr wr1 : World} {g : Nat} {ns : List ByteArray} {room : Int} (HI : IdxAt (fun k => w.heap.size ≤ k) wr g ns room) (HB : Below w.heap.size w wr) (hb : Below wr.heap.size wr wr1) (hns : ns.length < 1000000) (x : ByteArray) :
    Calls Tryd.prog 13 #[.pointer (some ⟨g, 0, none⟩), .string x] wr1 fun e W' => e = .returned (.tuple #[.int .i64 (putN ns room x), .int .i64 (putE ns room x)]) ∧ IdxAt (fun k => w.heap.size ≤ k) W' g (putI ns room x) room ∧ Below w.heap.size w W' := by
  have hB1 := below_step HB hb
  refine (put_ask (HI.below hb) hns x).mono fun e W' ⟨he, hI, hk, h0⟩ => ⟨he, hI.mono (fun k hk => hk.elim id (fun h => Nat.le_trans hB1.size h)), below_put hB1 hk h0 (fun _ h => h)⟩
def pendulumlaw03_awake.f : Option Bool := some true
set_option maxHeartbeats 1000000 in
set_option maxRecDepth 100000 in
theorem pendulumlaw03_awake.calls (r1 : Bool) (w : World) (h : pendulumlaw03_awake.f = some r1) :
    Calls Tryd.prog 8 #[] w fun e w' => e = .returned (.bool r1) ∧ Below w.heap.size w w' := by
  obtain rfl : true = r1 := Option.some.inj h
  clear h
  go_enter Tryd.func8, Tryd.ntmps8
  go_wp2_with fail
  refine (new_ask 2 (by omega) (by omega) w).mono ?_
  rintro e w1 ⟨rfl, hI, hb⟩
  have HI := Aside0.mk hI
  have HB := Aside0.mk hb
  clear hI hb
  go_wp2_with fail
  have p1 := put_ask HI.out (by decide) ⟨#[98]⟩
  rw [show putN [] 2 ⟨#[98]⟩ = 0 by kernel_rfl, show putE [] 2 ⟨#[98]⟩ = 0 by kernel_rfl, show putI [] 2 ⟨#[98]⟩ = [⟨#[98]⟩] by kernel_rfl] at p1
  refine p1.mono ?_
  rintro e w2 ⟨rfl, hI, hk, h0⟩
  have HI2 := Aside0.mk (hI.mono (S' := fun k => w.heap.size ≤ k) (fun k hk => hk.elim id (fun h => Nat.le_trans HB.out.size h)))
  have HB2 := Aside0.mk (below_put HB.out hk h0 (fun _ h => h))
  clear hI hk h0 p1 HI HB
  go_wp2_with fail
  have p1 := put_ask HI2.out (by decide) ⟨#[97, 95, 49]⟩
  rw [show putN [⟨#[98]⟩] 2 ⟨#[97, 95, 49]⟩ = 1 by kernel_rfl, show putE [⟨#[98]⟩] 2 ⟨#[97, 95, 49]⟩ = 0 by kernel_rfl, show putI [⟨#[98]⟩] 2 ⟨#[97, 95, 49]⟩ = [⟨#[98]⟩, ⟨#[97, 95, 49]⟩] by kernel_rfl] at p1
  refine p1.mono ?_
  rintro e w3 ⟨rfl, hI, hk, h0⟩
  have HI3 := Aside0.mk (hI.mono (S' := fun k => w.heap.size ≤ k) (fun k hk => hk.elim id (fun h => Nat.le_trans HB2.out.size h)))
  have HB3 := Aside0.mk (below_put HB2.out hk h0 (fun _ h => h))
  clear hI hk h0 p1 HI2 HB2
  go_wp2_with fail
  have p1 := put_ask HI3.out (by decide) ⟨#[98]⟩
  rw [show putN [⟨#[98]⟩, ⟨#[97, 95, 49]⟩] 2 ⟨#[98]⟩ = 0 by kernel_rfl, show putE [⟨#[98]⟩, ⟨#[97, 95, 49]⟩] 2 ⟨#[98]⟩ = 7 by kernel_rfl, show putI [⟨#[98]⟩, ⟨#[97, 95, 49]⟩] 2 ⟨#[98]⟩ = [⟨#[98]⟩, ⟨#[97, 95, 49]⟩] by kernel_rfl] at p1
  refine p1.mono ?_
  rintro e w4 ⟨rfl, hI, hk, h0⟩
  have HI4 := Aside0.mk (hI.mono (S' := fun k => w.heap.size ≤ k) (fun k hk => hk.elim id (fun h => Nat.le_trans HB3.out.size h)))
  have HB4 := Aside0.mk (below_put HB3.out hk h0 (fun _ h => h))
  clear hI hk h0 p1 HI3 HB3
  go_wp2_with fail
  have p1 := put_ask HI4.out (by decide) ⟨#[99]⟩
  rw [show putN [⟨#[98]⟩, ⟨#[97, 95, 49]⟩] 2 ⟨#[99]⟩ = 0 by kernel_rfl, show putE [⟨#[98]⟩, ⟨#[97, 95, 49]⟩] 2 ⟨#[99]⟩ = 3 by kernel_rfl, show putI [⟨#[98]⟩, ⟨#[97, 95, 49]⟩] 2 ⟨#[99]⟩ = [⟨#[98]⟩, ⟨#[97, 95, 49]⟩] by kernel_rfl] at p1
  refine p1.mono ?_
  rintro e w5 ⟨rfl, hI, hk, h0⟩
  have HI5 := Aside0.mk (hI.mono (S' := fun k => w.heap.size ≤ k) (fun k hk => hk.elim id (fun h => Nat.le_trans HB4.out.size h)))
  have HB5 := Aside0.mk (below_put HB4.out hk h0 (fun _ h => h))
  clear hI hk h0 p1 HI4 HB4
  go_wp2_with fail
  refine (find_ask HI5.out ⟨#[97, 95, 49]⟩).mono ?_
  rintro e w6 ⟨n, rfl, h1, _, hb⟩
  have hh : hasN [⟨#[98]⟩, ⟨#[97, 95, 49]⟩] ⟨#[97, 95, 49]⟩ = true := by kernel_rfl
  have hn : n = 1 := by
    have h2 := h1 hh
    match n, h2 with
    | 0, h2 => exact absurd (ByteArray.mk.inj (Option.some.inj h2)) (by decide)
    | 1, _ => rfl
    | k + 2, h2 => exact absurd h2 (by simp)
  subst hn
  rw [hh]
  have HI6 := Aside0.mk (HI5.out.below hb)
  have HB6 := Aside0.mk (below_step HB5.out hb)
  clear h1 hh hb HI5 HB5
  go_wp2_with fail
  refine (sorted_ask HI6.out).mono ?_
  rintro e w7 ⟨v, rfl, hR, hb⟩
  obtain ⟨A7, c7, rfl, _, _⟩ := Kd.R_reads hR
  rw [show (srt [⟨#[98]⟩, ⟨#[97, 95, 49]⟩]).length = 2 by kernel_rfl]
  have HB7 := Aside0.mk (below_step HB6.out hb)
  clear hR hb HI6 HB6
  go_wp2_with fail
  refine (index_Named.calls ⟨#[122, 57]⟩ true w7 (by kernel_rfl)).mono ?_
  rintro e w8 ⟨rfl, hb⟩
  have HB8 := Aside0.mk (below_step HB7.out hb)
  clear hb HB7
  go_wp2_with fail
  refine (index_Named.calls ⟨#[57, 122]⟩ false w8 (by kernel_rfl)).mono ?_
  rintro e w9 ⟨rfl, hb⟩
  have HB9 := Aside0.mk (below_step HB8.out hb)
  clear hb HB8
  go_wp2_with fail
  go_ret
  exact ⟨rfl, HB9.out⟩
end Go.Proofs.YtncmfomhigielaaDoor.Q
