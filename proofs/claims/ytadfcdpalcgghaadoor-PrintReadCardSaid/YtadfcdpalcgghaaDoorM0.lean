-- Texts of this claim, put together: Q0, HlexD, Hnamed, HprtM, Llex, LregL, Ltask, HprtA, HtaskA, HprtB, Lpars, LparsC, LparsR, Lright, Lrow, Q1, Q11, Q13, LrefN, Q19, Q21, LparsB, Hpars, HparsB.
import Derived.Test.YtadfcdpalcgghaaDoorProg
import Derived.Below
import Derived.Deep.Draws
import Derived.Deep.AppendLies
import Derived.Maps.AppendAt
import Derived.OwnWalk
import Derived.Laws.BytesArg
import Derived.Laws.MakeOwn
import Derived.Laws.OwnMore
import Derived.Deep.OwnRows
import Derived.Tactics
import Derived.Lib.ConvBytes
import Derived.Laws.Slices
import Derived.WalkKit
import Derived.KernelRfl
import Derived.RowKit3
import Derived.Deep.LoopGhost
import Derived.Deep.QuietTactic
import Derived.BigQuiet
import Derived.WideLaws
import Derived.Deep.DeepCutAuto
import Derived.Deep.CutBlock
import Derived.Deep.RegionHeld3
import Derived.Laws.Rows
import Derived.Lib.AppendStr
import Derived.ArgAppend
import Derived.Laws.IdiomCopy
import Derived.OrdersHeld
import Derived.Laws.BitsLemmas
import Derived.RowKit
import Derived.Test.YtadfcdpalcgghaaDoorWWords
import Derived.Test.YtadfcdpalcgghaaDoorWLast
import Derived.Test.YtadfcdpalcgghaaDoorWTab
import Derived.Test.YtadfcdpalcgghaaDoorWFour
import Derived.Test.YtadfcdpalcgghaaDoorWQPut
import Derived.Test.YtadfcdpalcgghaaDoorWApart
import Derived.Test.YtadfcdpalcgghaaDoorWArr
import Derived.Test.YtadfcdpalcgghaaDoorWZeros
import Derived.Test.YtadfcdpalcgghaaDoorWFoot
import Derived.Test.YtadfcdpalcgghaaDoorWKept
import Derived.Test.YtadfcdpalcgghaaDoorWShare
import Derived.Test.YtadfcdpalcgghaaDoorWN
import Derived.Test.YtadfcdpalcgghaaDoorWFootNe
import Derived.Test.YtadfcdpalcgghaaDoorWAt
import Derived.Test.YtadfcdpalcgghaaDoorWEqStruct
import Derived.Test.YtadfcdpalcgghaaDoorWRepsOne
import Derived.Test.YtadfcdpalcgghaaDoorWInv
import Derived.Test.YtadfcdpalcgghaaDoorWInvWords
import Derived.Test.YtadfcdpalcgghaaDoorWGuard
import Derived.Test.YtadfcdpalcgghaaDoorWNEv
import Derived.Test.YtadfcdpalcgghaaDoorWMore
import Derived.Lib.SlBytesConst
import Derived.Test.YtadfcdpalcgghaaDoorShelf
import Derived.WalkSpells
import Derived.Deep.RegionHeld
import Derived.Shelf.Strings.MapGrows
import Derived.Lib.ItoaLen
import Derived.Lib.AppendIntMem
import Derived.IntWalk
import Derived.OpenShut
import Derived.Deep.Slices
import Derived.ChangeArms
import Derived.WideShapes
-- Written for this claim by the session's own driver (wip/qprint.py) over the kit's printer, out of the translation. Not trusted: Lean checks it.
namespace Go.Proofs.YtadfcdpalcgghaaDoor.Q
open Go.RowKit Go.Proofs.YtadfcdpalcgghaaDoorW.PrintWords Go.Proofs.YtadfcdpalcgghaaDoorW.PrintLast Go.Proofs.YtadfcdpalcgghaaDoorW.PrintMore
attribute [local go_sem] max2_int min2_int max_two min_two max_three min_three max_four min_four   -- for this text's walks alone
set_option linter.unusedVariables false
set_option linter.unusedSimpArgs false

def errW : Option Int → Value
 | none => .nilIface
 | some c => .iface 0 (.int .i64 c)
theorem errW_none : errW none = .nilIface := rfl
theorem errW_some (c : Int) : errW (some c) = .iface 0 (.int .i64 c) := rfl

theorem info26 : (Tryd.prog.info? 26).map (fun i => (i.zero, i.size, i.bytes)) = some (some (.agg #[(.string ⟨#[]⟩), (.int .i64 0), (.int .i64 0), (.int .i64 0), (.int .i64 0), (.int .i64 0), (.int .i64 0), (.int .i64 0), (.int .i64 0), (.int .i64 0), (.int .i64 0)]), 11, 96) := by kernel_rfl
-- the values' own types
/-! #### struct type 26 -/
structure S26 where
 f0 : ByteArray
 f1 : Int
 f2 : Int
 f3 : Int
 f4 : Int
 f5 : Int
 f6 : Int
 f7 : Int
 f8 : Int
 f9 : Int
 f10 : Int
def z26 : S26 := ⟨(⟨#[]⟩ : ByteArray), (0 : Int), (0 : Int), (0 : Int), (0 : Int), (0 : Int), (0 : Int), (0 : Int), (0 : Int), (0 : Int), (0 : Int)⟩
def k26 : Kd S26 := Kd.iso (Kd.pair Kd.string (Kd.pair (Kd.int .i64) (Kd.pair (Kd.int .i64) (Kd.pair (Kd.int .i64) (Kd.pair (Kd.int .i64) (Kd.pair (Kd.int .i64) (Kd.pair (Kd.int .i64) (Kd.pair (Kd.int .i64) (Kd.pair (Kd.int .i64) (Kd.pair (Kd.int .i64) (Kd.int .i64))))))))))) (fun x : S26 => (x.f0, x.f1, x.f2, x.f3, x.f4, x.f5, x.f6, x.f7, x.f8, x.f9, x.f10))
theorem k26_open {w : World} {x : S26} {cs : List Value} (h : k26.K w x cs) : cs = [.string x.f0, .int .i64 x.f1, .int .i64 x.f2, .int .i64 x.f3, .int .i64 x.f4, .int .i64 x.f5, .int .i64 x.f6, .int .i64 x.f7, .int .i64 x.f8, .int .i64 x.f9, .int .i64 x.f10] := by
 obtain ⟨_, _, rfl, rfl, ⟨_, _, rfl, rfl, ⟨_, _, rfl, rfl, ⟨_, _, rfl, rfl, ⟨_, _, rfl, rfl, ⟨_, _, rfl, rfl, ⟨_, _, rfl, rfl, ⟨_, _, rfl, rfl, ⟨_, _, rfl, rfl, ⟨_, _, rfl, rfl, rfl⟩⟩⟩⟩⟩⟩⟩⟩⟩⟩ := h
 exact rfl
theorem k26_mk (w : World) (x : S26)  : k26.K w x [.string x.f0, .int .i64 x.f1, .int .i64 x.f2, .int .i64 x.f3, .int .i64 x.f4, .int .i64 x.f5, .int .i64 x.f6, .int .i64 x.f7, .int .i64 x.f8, .int .i64 x.f9, .int .i64 x.f10] := ⟨[.string x.f0], [.int .i64 x.f1, .int .i64 x.f2, .int .i64 x.f3, .int .i64 x.f4, .int .i64 x.f5, .int .i64 x.f6, .int .i64 x.f7, .int .i64 x.f8, .int .i64 x.f9, .int .i64 x.f10], rfl, rfl, ⟨[.int .i64 x.f1], [.int .i64 x.f2, .int .i64 x.f3, .int .i64 x.f4, .int .i64 x.f5, .int .i64 x.f6, .int .i64 x.f7, .int .i64 x.f8, .int .i64 x.f9, .int .i64 x.f10], rfl, rfl, ⟨[.int .i64 x.f2], [.int .i64 x.f3, .int .i64 x.f4, .int .i64 x.f5, .int .i64 x.f6, .int .i64 x.f7, .int .i64 x.f8, .int .i64 x.f9, .int .i64 x.f10], rfl, rfl, ⟨[.int .i64 x.f3], [.int .i64 x.f4, .int .i64 x.f5, .int .i64 x.f6, .int .i64 x.f7, .int .i64 x.f8, .int .i64 x.f9, .int .i64 x.f10], rfl, rfl, ⟨[.int .i64 x.f4], [.int .i64 x.f5, .int .i64 x.f6, .int .i64 x.f7, .int .i64 x.f8, .int .i64 x.f9, .int .i64 x.f10], rfl, rfl, ⟨[.int .i64 x.f5], [.int .i64 x.f6, .int .i64 x.f7, .int .i64 x.f8, .int .i64 x.f9, .int .i64 x.f10], rfl, rfl, ⟨[.int .i64 x.f6], [.int .i64 x.f7, .int .i64 x.f8, .int .i64 x.f9, .int .i64 x.f10], rfl, rfl, ⟨[.int .i64 x.f7], [.int .i64 x.f8, .int .i64 x.f9, .int .i64 x.f10], rfl, rfl, ⟨[.int .i64 x.f8], [.int .i64 x.f9, .int .i64 x.f10], rfl, rfl, ⟨[.int .i64 x.f9], [.int .i64 x.f10], rfl, rfl, rfl⟩⟩⟩⟩⟩⟩⟩⟩⟩⟩
theorem k26_mkM (w : World) (base : Nat) (ok : Nat → Prop) (x : S26)  : k26.M w base ok x [.string x.f0, .int .i64 x.f1, .int .i64 x.f2, .int .i64 x.f3, .int .i64 x.f4, .int .i64 x.f5, .int .i64 x.f6, .int .i64 x.f7, .int .i64 x.f8, .int .i64 x.f9, .int .i64 x.f10] := ⟨[.string x.f0], [.int .i64 x.f1, .int .i64 x.f2, .int .i64 x.f3, .int .i64 x.f4, .int .i64 x.f5, .int .i64 x.f6, .int .i64 x.f7, .int .i64 x.f8, .int .i64 x.f9, .int .i64 x.f10], rfl, rfl, ⟨[.int .i64 x.f1], [.int .i64 x.f2, .int .i64 x.f3, .int .i64 x.f4, .int .i64 x.f5, .int .i64 x.f6, .int .i64 x.f7, .int .i64 x.f8, .int .i64 x.f9, .int .i64 x.f10], rfl, rfl, ⟨[.int .i64 x.f2], [.int .i64 x.f3, .int .i64 x.f4, .int .i64 x.f5, .int .i64 x.f6, .int .i64 x.f7, .int .i64 x.f8, .int .i64 x.f9, .int .i64 x.f10], rfl, rfl, ⟨[.int .i64 x.f3], [.int .i64 x.f4, .int .i64 x.f5, .int .i64 x.f6, .int .i64 x.f7, .int .i64 x.f8, .int .i64 x.f9, .int .i64 x.f10], rfl, rfl, ⟨[.int .i64 x.f4], [.int .i64 x.f5, .int .i64 x.f6, .int .i64 x.f7, .int .i64 x.f8, .int .i64 x.f9, .int .i64 x.f10], rfl, rfl, ⟨[.int .i64 x.f5], [.int .i64 x.f6, .int .i64 x.f7, .int .i64 x.f8, .int .i64 x.f9, .int .i64 x.f10], rfl, rfl, ⟨[.int .i64 x.f6], [.int .i64 x.f7, .int .i64 x.f8, .int .i64 x.f9, .int .i64 x.f10], rfl, rfl, ⟨[.int .i64 x.f7], [.int .i64 x.f8, .int .i64 x.f9, .int .i64 x.f10], rfl, rfl, ⟨[.int .i64 x.f8], [.int .i64 x.f9, .int .i64 x.f10], rfl, rfl, ⟨[.int .i64 x.f9], [.int .i64 x.f10], rfl, rfl, rfl⟩⟩⟩⟩⟩⟩⟩⟩⟩⟩
def rd_T26 (xs : List S26) (i : Int) : S26 := xs.getD i.toNat z26
theorem at_T26 {w : World} {A : Option Addr} {n : Nat} {xs : List S26} (h : Kd.C k26 w A n xs) (i : Int) (h0 : 0 ≤ i) (h1 : i < n) : ∃ ad , A = some ad ∧ w.cell? (ad.add (i.toNat * 11)) = some (.string (rd_T26 xs i).f0) ∧ w.cell? ⟨(ad.add (i.toNat * 11)).block, (ad.add (i.toNat * 11)).off + 1, none⟩ = some (.int .i64 (rd_T26 xs i).f1) ∧ w.cell? ⟨(ad.add (i.toNat * 11)).block, (ad.add (i.toNat * 11)).off + 2, none⟩ = some (.int .i64 (rd_T26 xs i).f2) ∧ w.cell? ⟨(ad.add (i.toNat * 11)).block, (ad.add (i.toNat * 11)).off + 3, none⟩ = some (.int .i64 (rd_T26 xs i).f3) ∧ w.cell? ⟨(ad.add (i.toNat * 11)).block, (ad.add (i.toNat * 11)).off + 4, none⟩ = some (.int .i64 (rd_T26 xs i).f4) ∧ w.cell? ⟨(ad.add (i.toNat * 11)).block, (ad.add (i.toNat * 11)).off + 5, none⟩ = some (.int .i64 (rd_T26 xs i).f5) ∧ w.cell? ⟨(ad.add (i.toNat * 11)).block, (ad.add (i.toNat * 11)).off + 6, none⟩ = some (.int .i64 (rd_T26 xs i).f6) ∧ w.cell? ⟨(ad.add (i.toNat * 11)).block, (ad.add (i.toNat * 11)).off + 7, none⟩ = some (.int .i64 (rd_T26 xs i).f7) ∧ w.cell? ⟨(ad.add (i.toNat * 11)).block, (ad.add (i.toNat * 11)).off + 8, none⟩ = some (.int .i64 (rd_T26 xs i).f8) ∧ w.cell? ⟨(ad.add (i.toNat * 11)).block, (ad.add (i.toNat * 11)).off + 9, none⟩ = some (.int .i64 (rd_T26 xs i).f9) ∧ w.cell? ⟨(ad.add (i.toNat * 11)).block, (ad.add (i.toNat * 11)).off + 10, none⟩ = some (.int .i64 (rd_T26 xs i).f10) := by
 obtain ⟨ad, c, e, _, hK, hc0⟩ := Kd.C_get h z26 i h0 h1
 have hc : ∀ j u, c[j]? = some u → w.cell? (ad.add (i.toNat * 11 + j)) = some u := hc0
 obtain rfl := k26_open hK
 exact ⟨ad, e, hc 0 _ rfl, by rw [← add_field _ _ 1 (by omega)]; exact hc 1 _ rfl, by rw [← add_field _ _ 2 (by omega)]; exact hc 2 _ rfl, by rw [← add_field _ _ 3 (by omega)]; exact hc 3 _ rfl, by rw [← add_field _ _ 4 (by omega)]; exact hc 4 _ rfl, by rw [← add_field _ _ 5 (by omega)]; exact hc 5 _ rfl, by rw [← add_field _ _ 6 (by omega)]; exact hc 6 _ rfl, by rw [← add_field _ _ 7 (by omega)]; exact hc 7 _ rfl, by rw [← add_field _ _ 8 (by omega)]; exact hc 8 _ rfl, by rw [← add_field _ _ 9 (by omega)]; exact hc 9 _ rfl, by rw [← add_field _ _ 10 (by omega)]; exact hc 10 _ rfl⟩

/-! #### struct type 61 -/
structure S61 where
 f0 : Int
 f1 : ByteArray
 f2 : Int
 f3 : Int
 f4 : Int
def z61 : S61 := ⟨(0 : Int), (⟨#[]⟩ : ByteArray), (0 : Int), (0 : Int), (0 : Int)⟩
def k61 : Kd S61 := Kd.iso (Kd.pair (Kd.int .i64) (Kd.pair Kd.string (Kd.pair (Kd.int .i64) (Kd.pair (Kd.int .i64) (Kd.int .i64))))) (fun x : S61 => (x.f0, x.f1, x.f2, x.f3, x.f4))
theorem k61_open {w : World} {x : S61} {cs : List Value} (h : k61.K w x cs) : cs = [.int .i64 x.f0, .string x.f1, .int .i64 x.f2, .int .i64 x.f3, .int .i64 x.f4] := by
 obtain ⟨_, _, rfl, rfl, ⟨_, _, rfl, rfl, ⟨_, _, rfl, rfl, ⟨_, _, rfl, rfl, rfl⟩⟩⟩⟩ := h
 exact rfl
theorem k61_mkM (w : World) (base : Nat) (ok : Nat → Prop) (x : S61)  : k61.M w base ok x [.int .i64 x.f0, .string x.f1, .int .i64 x.f2, .int .i64 x.f3, .int .i64 x.f4] := ⟨[.int .i64 x.f0], [.string x.f1, .int .i64 x.f2, .int .i64 x.f3, .int .i64 x.f4], rfl, rfl, ⟨[.string x.f1], [.int .i64 x.f2, .int .i64 x.f3, .int .i64 x.f4], rfl, rfl, ⟨[.int .i64 x.f2], [.int .i64 x.f3, .int .i64 x.f4], rfl, rfl, ⟨[.int .i64 x.f3], [.int .i64 x.f4], rfl, rfl, rfl⟩⟩⟩⟩
def rd_T61 (xs : List S61) (i : Int) : S61 := xs.getD i.toNat z61
theorem at_T61 {w : World} {A : Option Addr} {n : Nat} {xs : List S61} (h : Kd.C k61 w A n xs) (i : Int) (h0 : 0 ≤ i) (h1 : i < n) : ∃ ad , A = some ad ∧ w.cell? (ad.add (i.toNat * 5)) = some (.int .i64 (rd_T61 xs i).f0) ∧ w.cell? ⟨(ad.add (i.toNat * 5)).block, (ad.add (i.toNat * 5)).off + 1, none⟩ = some (.string (rd_T61 xs i).f1) ∧ w.cell? ⟨(ad.add (i.toNat * 5)).block, (ad.add (i.toNat * 5)).off + 2, none⟩ = some (.int .i64 (rd_T61 xs i).f2) ∧ w.cell? ⟨(ad.add (i.toNat * 5)).block, (ad.add (i.toNat * 5)).off + 3, none⟩ = some (.int .i64 (rd_T61 xs i).f3) ∧ w.cell? ⟨(ad.add (i.toNat * 5)).block, (ad.add (i.toNat * 5)).off + 4, none⟩ = some (.int .i64 (rd_T61 xs i).f4) := by
 obtain ⟨ad, c, e, _, hK, hc0⟩ := Kd.C_get h z61 i h0 h1
 have hc : ∀ j u, c[j]? = some u → w.cell? (ad.add (i.toNat * 5 + j)) = some u := hc0
 obtain rfl := k61_open hK
 exact ⟨ad, e, hc 0 _ rfl, by rw [← add_field _ _ 1 (by omega)]; exact hc 1 _ rfl, by rw [← add_field _ _ 2 (by omega)]; exact hc 2 _ rfl, by rw [← add_field _ _ 3 (by omega)]; exact hc 3 _ rfl, by rw [← add_field _ _ 4 (by omega)]; exact hc 4 _ rfl⟩

end Go.Proofs.YtadfcdpalcgghaaDoor.Q

-- []byte(s) as one step of a walk; a token's cells; the spots.
namespace Go.Proofs.YtadfcdpalcgghaaDoor.Q
open Go.RowKit Go.Proofs.YtadfcdpalcgghaaDoorW.PrintWords Go.Proofs.YtadfcdpalcgghaaDoorW.PrintLast Go.Proofs.YtadfcdpalcgghaaDoorW.PrintMore
attribute [local go_sem] max2_int min2_int max_two min_two max_three min_three max_four min_four   -- for this text's walks alone
set_option linter.unusedVariables false
set_option linter.unusedSimpArgs false

theorem bytesOf_get (s : ByteArray) (j : Nat) : (bytesOf s).getD j 0 = ((s.data.toList.getD j 0).toNat : Int) := by
 unfold bytesOf
 rw [List.getD_eq_getElem?_getD, List.getD_eq_getElem?_getD, List.getElem?_map]
 cases s.data.toList[j]? <;> rfl
theorem conv_C (W : World) (s : ByteArray) (hs : s.size ≤ 9223372036854775807) : Kd.C (Kd.int .u8) (Lib.bytesWorld W 5 s) (some ⟨W.heap.size, 0, none⟩) s.size (bytesOf s) := by
 refine Kd.C_of_reads (d := (0 : Int)) (h1 := fun _ => rfl) ⟨bytesOf_length s, hs, fun _ => ⟨_, rfl, fun j hj => ?_⟩⟩
 have e : (⟨W.heap.size, 0, none⟩ : Addr).add j = ⟨W.heap.size, j, none⟩ := by unfold Addr.add; split <;> simp_all
 rw [e, Lib.bytesWorld_cell W _ s j hj, bytesOf_get]
theorem conv_below (W : World) (s : ByteArray) : Below W.heap.size W (Lib.bytesWorld W 5 s) := by
 refine ⟨?_, ?_, ?_, ?_, fun k hk => Lib.bytesWorld_at_old W _ s k hk⟩
 ·unfold Lib.bytesWorld World.freeze; split <;> rfl
 ·unfold Lib.bytesWorld World.freeze; split <;> rfl
 ·unfold Lib.bytesWorld World.freeze; split <;> rfl
 ·rw [Lib.bytesWorld_size]; omega
section
variable {ops : Array Oper} {o : Oper} {a : Act} {Q : Exit → Act → World → Prop}
theorem conv_event {rest : List Oper} {W : World} {x : Operand} {s : ByteArray} (hgd : o.guard = none) (ho : o.op = .convert 9 41 x) (hx : a.eval x = .string s) (hs : s.size ≤ 9223372036854775807)
  (h : ∀ A c w1, Kd.C (Kd.int .u8) w1 (some A) (bytesOf s).length (bytesOf s) → (bytesOf s).length ≤ c → Below W.heap.size W w1 → wpList Tryd.prog ops Q rest (a.put o.dst (.slice (some A) (bytesOf s).length c)) w1) : wpList Tryd.prog ops Q (o :: rest) a W := by
 have hrun := Lib.run_convert_string_bytes (P := Tryd.prog) W 9 41 5 s Tryd.underlying9 Tryd.underlying41 Tryd.underlying5
 have h2 := h ⟨W.heap.size, 0, none⟩ (grownCap W s.size 0 5) _ (by have := conv_C W s hs; rw [bytesOf_length]; exact this) (by rw [bytesOf_length]; exact grownCap_ge _ _ _ _) (conv_below W s)
 rw [bytesOf_length] at h2
 refine Kd.event_run hgd ?_ h2
 simp [execOp, ho, hx, hrun, Result.andThen]
end
end Go.Proofs.YtadfcdpalcgghaaDoor.Q

-- Whether a text is a name, as index.Named tells it: proved by hand, in the printer's form.
namespace Go.Proofs.YtadfcdpalcgghaaDoor.Q
open Go.RowKit Go.Proofs.YtadfcdpalcgghaaDoorW.PrintWords Go.Proofs.YtadfcdpalcgghaaDoorW.PrintLast Go.Proofs.YtadfcdpalcgghaaDoorW.PrintMore
attribute [local go_sem] max2_int min2_int max_two min_two max_three min_three max_four min_four   -- for this text's walks alone
set_option linter.unusedVariables false
set_option linter.unusedSimpArgs false

def nLetters : List UInt8 := [97, 98, 99, 100, 101, 102, 103, 104, 105, 106, 107, 108, 109, 110, 111, 112, 113, 114, 115, 116, 117, 118, 119, 120, 121, 122]
def nOthers : List UInt8 := nLetters ++ [48, 49, 50, 51, 52, 53, 54, 55, 56, 57, 95]
def named (a : ByteArray) : Bool := decide (1 ≤ a.size) && decide (a.size ≤ 12) && (a.data.toList.take 1).all (nLetters.contains ·) && a.data.toList.all (nOthers.contains ·)
def index_Named.f (a0 : ByteArray) : Option Bool := some (named a0)
theorem dw_nil_iff {α : Type} (p : α → Bool) : ∀ l : List α, l.dropWhile p = [] ↔ ∀ x ∈ l, p x = true
 | [] => by simp
 | a :: r => by
  rw [List.dropWhile_cons]
  by_cases h : p a = true
  ·rw [if_pos h, dw_nil_iff p r]; simp [h]
  ·rw [if_neg h]; simp [h]
theorem trimS_nil_iff (l cs : List UInt8) : (Lib.trimS l cs = []) ↔ l.all (cs.contains ·) = true := by
 unfold Lib.trimS Lib.trimLeftS Lib.trimRightS
 constructor
 ·intro h
  have h1 : ∀ x ∈ ((l.reverse.dropWhile (cs.contains ·)).reverse), cs.contains x = true := by
   have := (dw_nil_iff _ _).1 h
   exact this
  have h2 : l.reverse.dropWhile (cs.contains ·) = [] := by
   cases hd : l.reverse.dropWhile (cs.contains ·) with
   | nil => rfl
   | cons x r =>
    have hx : cs.contains x = true := h1 x (by rw [hd]; simp)
    have := List.head_dropWhile_not (p := (cs.contains ·)) (l := l.reverse) (by rw [hd]; simp)
    simp only [hd, List.head_cons] at this
    rw [hx] at this
    exact absurd this (by simp)
  have h3 := (dw_nil_iff _ _).1 h2
  rw [List.all_eq_true]
  intro x hx
  exact h3 x (by simpa using hx)
 ·intro h
  rw [List.all_eq_true] at h
  have h2 : l.reverse.dropWhile (cs.contains ·) = [] := (dw_nil_iff _ _).2 (fun x hx => h x (by simpa using hx))
  rw [h2]; rfl
theorem empty_mk (l : List UInt8) : (⟨l.toArray⟩ : ByteArray).toList.isEmpty = l.isEmpty := by rw [Lib.toList_data]
theorem trim_ask (s cs : ByteArray) (w : World) (hs : s.size ≤ 9223372036854775807) (hcs : cs.size < 4294967281) (hascii : ∀ (j : Nat) b, cs.data.toList[j]? = some b → b.toNat < 128) (b : Bool) (hb : s.data.toList.all (cs.data.toList.contains ·) = b) :
  Calls Tryd.prog 70 #[.string s, .string cs] w fun e w' => ∃ t : ByteArray, e = .returned (.string t) ∧ t.toList.isEmpty = b ∧ Below w.heap.size w w' := by
 refine (Any.strings_Trim_laid Tryd.shTrim (by kernel_rfl) s cs w hs hcs hascii).mono fun e w' ⟨he, hB⟩ => ⟨_, he, ?_, hB⟩
 rw [empty_mk]
 cases b with
 | true => rw [(trimS_nil_iff _ _).2 hb]; rfl
 | false =>
  cases hl : Lib.trimS s.data.toList cs.data.toList with
  | nil => rw [(trimS_nil_iff _ _).1 hl] at hb; exact absurd hb (by simp)
  | cons _ _ => rfl
theorem extract_one (s : ByteArray) : (s.extract 0 1).data.toList = s.data.toList.take 1 := by
 rw [ByteArray.data_extract]; simp
set_option maxHeartbeats 1000000 in
set_option maxRecDepth 100000 in
theorem index_Named.calls (l0 : ByteArray) (r1 : Bool) (w : World) (h : index_Named.f l0 = some r1) :
  Calls Tryd.prog 62 #[.string l0] w fun e w' => e = .returned (.bool r1) ∧ Below w.heap.size w w' := by
 have hr := Option.some.inj h
 have HB := Aside0.mk (Below.refl w.heap.size w)
 clear h
 unfold named at hr
 by_cases h1 : 1 ≤ l0.size
 ·by_cases h2 : l0.size ≤ 12
  ·rw [decide_eq_true h1, decide_eq_true h2] at hr
   rw [Bool.and_self, Bool.true_and] at hr
   have d1 : decide ((l0.size : Int) ≥ 1) = true := by simp; omega
   have d2 : decide ((l0.size : Int) ≤ 12) = true := by simp; omega
   have q1 : (1 : Int) ≤ (l0.size : Int) := by omega
   have H2 := Aside0.mk h2
   have he1 : (l0.extract 0 1).size ≤ 12 := by rw [ByteArray.size_extract]; omega
   have HE1 := Aside0.mk he1
   clear h1 h2 he1
   obtain ⟨b1, hb1⟩ : ∃ b1, (l0.data.toList.take 1).all (nLetters.contains ·) = b1 := ⟨_, rfl⟩
   obtain ⟨b2, hb2⟩ : ∃ b2, l0.data.toList.all (nOthers.contains ·) = b2 := ⟨_, rfl⟩
   rw [hb1, hb2] at hr
   rw [← extract_one] at hb1
   have T1 := Aside0.mk hb1
   have T2 := Aside0.mk hb2
   have HR := Aside0.mk hr
   clear hb1 hb2 hr
   cases b1 with
   | true =>
    go_enter Tryd.func62, Tryd.ntmps62
    go_wp2_with (first
     | (refine (trim_ask (l0.extract 0 1) _ _ (by have := HE1.out; omega) (by decide) (ascii_of_all (by decide)) _ T1.out).mono ?_; rintro e wA ⟨t1, rfl, ht1, hb⟩; have HB1 := Aside0.mk (below_step HB.out hb); clear HB hb T1; have HB := HB1; clear HB1)
     | (refine (trim_ask l0 _ _ (by have := H2.out; omega) (by decide) (ascii_of_all (by decide)) _ T2.out).mono ?_; rintro e wA ⟨t2, rfl, ht2, hb⟩; have HB1 := Aside0.mk (below_step HB.out hb); clear HB hb T2; have HB := HB1; clear HB1))
    go_ret
    exact ⟨by rw [← HR.out]; simp [ht2], HB.out⟩
   | false =>
    go_enter Tryd.func62, Tryd.ntmps62
    go_wp2_with (first
     | (refine (trim_ask (l0.extract 0 1) _ _ (by have := HE1.out; omega) (by decide) (ascii_of_all (by decide)) _ T1.out).mono ?_; rintro e wA ⟨t1, rfl, ht1, hb⟩; have HB1 := Aside0.mk (below_step HB.out hb); clear HB hb T1; have HB := HB1; clear HB1))
    go_ret
    exact ⟨by rw [← HR.out]; simp, HB.out⟩
  ·rw [decide_eq_false h2] at hr
   rw [Bool.and_false, Bool.false_and, Bool.false_and] at hr
   have d1 : decide ((l0.size : Int) ≥ 1) = true := by simp; omega
   have d2 : decide ((l0.size : Int) ≤ 12) = false := by simp; omega
   have HR := Aside0.mk hr
   clear h1 h2 hr
   go_enter Tryd.func62, Tryd.ntmps62
   go_wp2
   go_ret
   exact ⟨by rw [← HR.out]; rfl, HB.out⟩
 ·rw [decide_eq_false h1] at hr
  rw [Bool.false_and, Bool.false_and, Bool.false_and] at hr
  have d1 : decide ((l0.size : Int) ≥ 1) = false := by simp; omega
  have HR := Aside0.mk hr
  clear h1 hr
  go_enter Tryd.func62, Tryd.ntmps62
  go_wp2
  go_ret
  exact ⟨by rw [← HR.out]; rfl, HB.out⟩
end Go.Proofs.YtadfcdpalcgghaaDoor.Q

-- print.Mode, as the printer walked it (in a text of its own, so that print.Task can stand behind it).
namespace Go.Proofs.YtadfcdpalcgghaaDoor.Q
open Go.RowKit Go.Proofs.YtadfcdpalcgghaaDoorW.PrintWords Go.Proofs.YtadfcdpalcgghaaDoorW.PrintLast Go.Proofs.YtadfcdpalcgghaaDoorW.PrintMore
attribute [local go_sem] max2_int min2_int max_two min_two max_three min_three max_four min_four   -- for this text's walks alone
set_option linter.unusedVariables false
set_option linter.unusedSimpArgs false

def print_Mode.f (a0 : Int) : Option (ByteArray) := if a0 = 1 then (some (⟨#[114, 101, 116, 114, 121]⟩ : ByteArray)) else (if a0 = 2 then (some (⟨#[98, 108, 111, 99, 107]⟩ : ByteArray)) else (if a0 = 3 then (some (⟨#[98, 97, 99, 107, 117, 112]⟩ : ByteArray)) else (some (⟨#[110, 111, 110, 101]⟩ : ByteArray))))
set_option maxHeartbeats 8000000 in
set_option maxRecDepth 100000 in
theorem print_Mode.calls (a0 : Int) (r : ByteArray) (w : World) (h : print_Mode.f a0 = some r) :
  Calls Tryd.prog 12 #[.int .i64 a0] w fun e w' => e = .returned (.string r) ∧ Drawn0 w w' := by
 have H : (if a0 = 1 then (some (⟨#[114, 101, 116, 114, 121]⟩ : ByteArray)) else (if a0 = 2 then (some (⟨#[98, 108, 111, 99, 107]⟩ : ByteArray)) else (if a0 = 3 then (some (⟨#[98, 97, 99, 107, 117, 112]⟩ : ByteArray)) else (some (⟨#[110, 111, 110, 101]⟩ : ByteArray))))) = some r := h
 clear h
 by_cases c2 : a0 = 1
 ·rw [if_pos c2] at H
  have c2b0 : (a0 == 1) = true := beq_iff_eq.mpr c2
  have c2b1 : (a0 != 1) = false := bne_eq_false_iff_eq.mpr c2
  clear c2
  obtain rfl := Option.some.inj H
  go_enter Tryd.func12, Tryd.ntmps12
  go_wp2
  go_ret
  exact ⟨by first | rfl | (simp; done) | (simp [*]; done), by repeat (first | exact Drawn0.refl _ | apply Drawn0.step)⟩
 ·rw [if_neg c2] at H
  have c2b0 : (a0 == 1) = false := beq_eq_false_iff_ne.mpr c2
  have c2b1 : (a0 != 1) = true := bne_iff_ne.mpr c2
  by_cases c3 : a0 = 2
  ·rw [if_pos c3] at H
   have c3b0 : (a0 == 2) = true := beq_iff_eq.mpr c3
   have c3b1 : (a0 != 2) = false := bne_eq_false_iff_eq.mpr c3
   clear c3
   obtain rfl := Option.some.inj H
   go_enter Tryd.func12, Tryd.ntmps12
   go_wp2
   go_ret
   exact ⟨by first | rfl | (simp; done) | (simp [*]; done), by repeat (first | exact Drawn0.refl _ | apply Drawn0.step)⟩
  ·rw [if_neg c3] at H
   have c3b0 : (a0 == 2) = false := beq_eq_false_iff_ne.mpr c3
   have c3b1 : (a0 != 2) = true := bne_iff_ne.mpr c3
   by_cases c4 : a0 = 3
   ·rw [if_pos c4] at H
    have c4b0 : (a0 == 3) = true := beq_iff_eq.mpr c4
    have c4b1 : (a0 != 3) = false := bne_eq_false_iff_eq.mpr c4
    clear c4
    obtain rfl := Option.some.inj H
    go_enter Tryd.func12, Tryd.ntmps12
    go_wp2
    go_ret
    exact ⟨by first | rfl | (simp; done) | (simp [*]; done), by repeat (first | exact Drawn0.refl _ | apply Drawn0.step)⟩
   ·rw [if_neg c4] at H
    have c4b0 : (a0 == 3) = false := beq_eq_false_iff_ne.mpr c4
    have c4b1 : (a0 != 3) = true := bne_iff_ne.mpr c4
    obtain rfl := Option.some.inj H
    go_enter Tryd.func12, Tryd.ntmps12
    go_wp2
    go_ret
    exact ⟨by first | rfl | (simp; done) | (simp [*]; done), by repeat (first | exact Drawn0.refl _ | apply Drawn0.step)⟩
end Go.Proofs.YtadfcdpalcgghaaDoor.Q

-- What lex.Tokens tells, as a plain function of bytes (no program in sight).
namespace Go.Proofs.YtadfcdpalcgghaaDoor.Q
open Go.RowKit Go.Proofs.YtadfcdpalcgghaaDoorW.PrintWords Go.Proofs.YtadfcdpalcgghaaDoorW.PrintLast Go.Proofs.YtadfcdpalcgghaaDoorW.PrintMore
attribute [local go_sem] max2_int min2_int max_two min_two max_three min_three max_four min_four   -- for this text's walks alone
set_option linter.unusedVariables false
set_option linter.unusedSimpArgs false

def smB (c : Int) : Bool := decide (97 ≤ c) && decide (c ≤ 122)
def dgB (c : Int) : Bool := decide (48 ≤ c) && decide (c ≤ 57)
def wdB (c : Int) : Bool := smB c || dgB c || (c == 95)
def rkB (c : Int) : Bool := c != 10
/-- A number's value; none: it is over. -/
def valGo : Int → List Int → Option Int
 | n, [] => some n
 | n, c :: s => if 10 * n + (c - 48) > 1099511627776 then none else valGo (10 * n + (c - 48)) s
/-- The first piece of a text: an error, how many bytes it has, its token, whether it ends a line. -/
def piece : List Int → Int × Nat × Option (Int × ByteArray × Int) × Bool
 | [] => (0, 0, none, false)
 | c :: s =>
  if smB c = true then (0, ((c :: s).takeWhile wdB).length, some (1, strOfNums ((c :: s).takeWhile wdB), 0), false)
  else if dgB c = true then
   match valGo 0 ((c :: s).takeWhile dgB) with
   | none => (2, 0, none, false)
   | some n => (0, ((c :: s).takeWhile dgB).length, some (2, strOfNums ((c :: s).takeWhile dgB), n), false)
  else if c = 10 then (0, 1, some (3, (⟨#[]⟩ : ByteArray), 0), true)
  else if c = 32 then (0, 1, none, false)
  else if c = 9 then (0, 1, none, false)
  else if c = 35 then (0, ((c :: s).takeWhile rkB).length, none, false)
  else (5, 0, none, false)
def tokL (t : Option (Int × ByteArray × Int)) (line col : Int) : List S61 :=
 match t with
 | none => []
 | some (k, x, v) => [⟨k, x, v, line, col⟩]
def toks : Nat → List Int → Int → Int → List S61 → List S61 × Int × Int × Int
 | 0, _, _, _, _ => ([], 0, 0, 0)
 | k + 1, s, line, col, xs =>
  if s = [] then (xs ++ [⟨4, (⟨#[]⟩ : ByteArray), 0, line, col⟩], 0, 0, 0)
  else if (piece s).1 ≠ 0 then ([], (piece s).1, line, col)
  else toks k (s.drop (piece s).2.1) (if (piece s).2.2.2 = true then line + 1 else line) (if (piece s).2.2.2 = true then 1 else col + (piece s).2.1) (xs ++ tokL (piece s).2.2.1 line col)
def okBytes (l : List Int) : Bool := l.all fun x => decide (0 ≤ x) && decide (x ≤ 255)
def lexToks (l : List Int) : List S61 × Int × Int × Int := toks (l.length + 1) l 1 1 []

theorem takeWhile_le (P : Int → Bool) (s : List Int) : (s.takeWhile P).length ≤ s.length := by
 induction s with
 | nil => simp
 | cons c s ih => rw [List.takeWhile_cons]; split <;> simp <;> omega
theorem takeWhile_pos (P : Int → Bool) (c : Int) (s : List Int) (h : P c = true) : 1 ≤ ((c :: s).takeWhile P).length := by
 rw [List.takeWhile_cons, if_pos h]; simp
theorem sm_wd {c : Int} (h : smB c = true) : wdB c = true := by unfold wdB; rw [h]; rfl
/-- The ways of a piece. -/
theorem piece_word {c : Int} {s : List Int} (h1 : smB c = true) : piece (c :: s) = (0, ((c :: s).takeWhile wdB).length, some (1, strOfNums ((c :: s).takeWhile wdB), 0), false) := by
 unfold piece; dsimp only; rw [if_pos h1]
theorem piece_over {c : Int} {s : List Int} (h1 : ¬ smB c = true) (h2 : dgB c = true) (h : valGo 0 ((c :: s).takeWhile dgB) = none) : piece (c :: s) = (2, 0, none, false) := by
 unfold piece; dsimp only; rw [if_neg h1, if_pos h2, h]
theorem piece_number {c : Int} {s : List Int} {n : Int} (h1 : ¬ smB c = true) (h2 : dgB c = true) (h : valGo 0 ((c :: s).takeWhile dgB) = some n) : piece (c :: s) = (0, ((c :: s).takeWhile dgB).length, some (2, strOfNums ((c :: s).takeWhile dgB), n), false) := by
 unfold piece; dsimp only; rw [if_neg h1, if_pos h2, h]
theorem piece_line (s : List Int) : piece (10 :: s) = (0, 1, some (3, (⟨#[]⟩ : ByteArray), 0), true) := rfl
theorem piece_space (s : List Int) : piece (32 :: s) = (0, 1, none, false) := rfl
theorem piece_tab (s : List Int) : piece (9 :: s) = (0, 1, none, false) := rfl
theorem piece_remark (s : List Int) : piece (35 :: s) = (0, ((35 :: s).takeWhile rkB).length, none, false) := rfl
theorem piece_bad {c : Int} {s : List Int} (h1 : ¬ smB c = true) (h2 : ¬ dgB c = true) (h3 : c ≠ 10) (h4 : c ≠ 32) (h5 : c ≠ 9) (h6 : c ≠ 35) : piece (c :: s) = (5, 0, none, false) := by
 unfold piece; dsimp only; rw [if_neg h1, if_neg h2, if_neg h3, if_neg h4, if_neg h5, if_neg h6]
theorem piece_ways (c : Int) (s : List Int) : smB c = true ∨ (¬ smB c = true ∧ dgB c = true ∧ ((∃ n, valGo 0 ((c :: s).takeWhile dgB) = some n) ∨ valGo 0 ((c :: s).takeWhile dgB) = none)) ∨ c = 10 ∨ c = 32 ∨ c = 9 ∨ c = 35 ∨
  (¬ smB c = true ∧ ¬ dgB c = true ∧ c ≠ 10 ∧ c ≠ 32 ∧ c ≠ 9 ∧ c ≠ 35) := by
 by_cases h1 : smB c = true
 ·exact .inl h1
 ·by_cases h2 : dgB c = true
  ·refine .inr (.inl ⟨h1, h2, ?_⟩)
   cases valGo 0 ((c :: s).takeWhile dgB) with
   | none => exact .inr rfl
   | some n => exact .inl ⟨n, rfl⟩
  ·by_cases h3 : c = 10
   ·exact .inr (.inr (.inl h3))
   ·by_cases h4 : c = 32
    ·exact .inr (.inr (.inr (.inl h4)))
    ·by_cases h5 : c = 9
     ·exact .inr (.inr (.inr (.inr (.inl h5))))
     ·by_cases h6 : c = 35
      ·exact .inr (.inr (.inr (.inr (.inr (.inl h6)))))
      ·exact .inr (.inr (.inr (.inr (.inr (.inr ⟨h1, h2, h3, h4, h5, h6⟩)))))
theorem piece_le (s : List Int) : (piece s).2.1 ≤ s.length := by
 cases s with
 | nil => simp [piece]
 | cons c s =>
  rcases piece_ways c s with h | ⟨h1, h2, ⟨n, h⟩ | h⟩ | rfl | rfl | rfl | rfl | ⟨h1, h2, h3, h4, h5, h6⟩
  ·rw [piece_word h]; exact takeWhile_le _ _
  ·rw [piece_number h1 h2 h]; exact takeWhile_le _ _
  ·rw [piece_over h1 h2 h]; exact Nat.zero_le _
  ·rw [piece_line]; simp
  ·rw [piece_space]; simp
  ·rw [piece_tab]; simp
  ·rw [piece_remark]; exact takeWhile_le _ _
  ·rw [piece_bad h1 h2 h3 h4 h5 h6]; exact Nat.zero_le _
theorem piece_pos {s : List Int} (hs : s ≠ []) (he : (piece s).1 = 0) : 1 ≤ (piece s).2.1 := by
 cases s with
 | nil => exact absurd rfl hs
 | cons c s =>
  rcases piece_ways c s with h | ⟨h1, h2, ⟨n, h⟩ | h⟩ | rfl | rfl | rfl | rfl | ⟨h1, h2, h3, h4, h5, h6⟩
  ·rw [piece_word h]; exact takeWhile_pos _ _ _ (sm_wd h)
  ·rw [piece_number h1 h2 h]; exact takeWhile_pos _ _ _ h2
  ·rw [piece_over h1 h2 h] at he; exact absurd he (by decide)
  ·rw [piece_line]; exact Nat.le_refl _
  ·rw [piece_space]; exact Nat.le_refl _
  ·rw [piece_tab]; exact Nat.le_refl _
  ·rw [piece_remark]; exact takeWhile_pos _ _ _ rfl
  ·rw [piece_bad h1 h2 h3 h4 h5 h6] at he; exact absurd he (by decide)
end Go.Proofs.YtadfcdpalcgghaaDoor.Q

-- A region that asks the tape: loads are taken first, though stores into what they read come at its end (they wait for the loads).
namespace Go.Proofs.YtadfcdpalcgghaaDoor.Q
open Go.RowKit Go.Proofs.YtadfcdpalcgghaaDoorW.PrintWords Go.Proofs.YtadfcdpalcgghaaDoorW.PrintLast Go.Proofs.YtadfcdpalcgghaaDoorW.PrintMore
attribute [local go_sem] max2_int min2_int max_two min_two max_three min_three max_four min_four   -- for this text's walks alone
set_option linter.unusedVariables false
set_option linter.unusedSimpArgs false

section
variable {P : Program} {md : Region.Mode} {ops : Array Oper} {Q : Exit → Act → World → Prop} {S : World → Prop} {sts : List Nat}
/-- None of the stores has come up. -/
def noneUp (sts : List Nat) (listed : Array Bool) : Prop := ∀ k, k ∈ sts → listed.getD k true = false
/-- Whatever order is picked from here on; S holds as long as none of the stores has come up. -/
def wpL (P : Program) (md : Region.Mode) (ops : Array Oper) (Q : Exit → Act → World → Prop) (S : World → Prop) (sts : List Nat) : Nat → Array Bool → Act → World → Prop
 | 0, listed, a, w => Region.ready md ops listed = [] ∧ Q .normal a w
 | fuel + 1, listed, a, w => (Region.ready md ops listed = [] → Q .normal a w) ∧
  ∀ i ∈ Region.ready md ops listed, wpOp P ops Q i (fun a' w' => (noneUp sts (listed.setIfInBounds i true) → S w') ∧ wpL P md ops Q S sts fuel (listed.setIfInBounds i true) a' w') a w
theorem wpL_any : ∀ (fuel : Nat) (listed : Array Bool) (a : Act) (w : World), wpL P md ops Q S sts fuel listed a w → wpAny P md ops Q fuel listed a w
 | 0, _, _, _, h => h
 | fuel + 1, _, _, _, h => ⟨h.1, fun i hi => wpOp_mono (fun a' w' h' => wpL_any fuel _ a' w' h'.2) (h.2 i hi)⟩
theorem noneUp_set {listed : Array Bool} {j : Nat} (h : noneUp sts listed) (hj : j ∉ sts) : noneUp sts (listed.setIfInBounds j true) := fun k hk => by
 have hne : j ≠ k := fun e => hj (e ▸ hk)
 have := h k hk
 rw [← this]
 simp [Array.getD_eq_getD_getElem?, hne]
theorem wpL_first {i : Nat} {oi : Oper} {v : Value} (hi : ops[i]? = some oi) (hsel : ∀ (j : Nat) (o : Oper) cs b, ops[j]? = some o → o.op ≠ .select cs b)
  (hQ : ∀ c a w, Q (.panic c) (a.put oi.dst v) w → Q (.panic c) a w) (hist : i ∉ sts)
  (hst : ∀ k, k ∈ sts → ∀ ok, ops[k]? = some ok → ∃ e ∈ ok.after, Region.binds md e = true ∧ e.on = i) :
  ∀ (fuel : Nat) (listed : Array Bool) (a : Act) (w : World),
   (∀ j oj, ops[j]? = some oj → j ≠ i → listed.getD j true = false → (∀ e ∈ oj.after, Region.binds md e = true → e.on ≠ i) → oi.apart ops oj = true) →
   i ∈ Region.ready md ops listed → YieldsIf P ops S oi v a → S w → noneUp sts listed →
   wpL P md ops Q S sts fuel (listed.setIfInBounds i true) (a.put oi.dst v) w → wpL P md ops Q S sts (fuel + 1) listed a w := by
 intro fuel
 induction fuel with
 | zero =>
  intro listed a w _ hr hy hS _ H
  refine ⟨fun h => (by rw [h] at hr; cases hr), fun j hj => ?_⟩
  by_cases hji : j = i
  ·rw [hji]; exact hy.wpOp hi hS ⟨fun _ => hS, H⟩
  ·have := ready_mono hj hji
   rw [H.1] at this
   cases this
 | succ fuel ih =>
  intro listed a w hfree hr hy hS hN H
  refine ⟨fun h => (by rw [h] at hr; cases hr), fun j hj => ?_⟩
  by_cases hji : j = i
  ·rw [hji]; exact hy.wpOp hi hS ⟨fun _ => hS, H⟩
  ·have h1 := H.2 j (ready_mono hj hji)
   obtain ⟨hjun, oj, hoj, hall⟩ := mem_ready.1 hj
   have hun := (mem_ready.1 hr).1
   have hnot : ∀ e ∈ oj.after, Region.binds md e = true → e.on ≠ i := fun e he hb heq => by
    have q1 := hall e he hb
    rw [heq] at q1
    rcases Nat.lt_or_ge i listed.size with h' | h'
    ·simp [h'] at hun q1; rw [hun] at q1; cases q1
    ·simp [Array.getElem?_eq_none h'] at q1
   have hjs : j ∉ sts := fun hm => by
    obtain ⟨e, he, hb, heq⟩ := hst j hm oj hoj
    exact hnot e he hb heq
   have hN2 : noneUp sts ((listed.setIfInBounds i true).setIfInBounds j true) := noneUp_set (noneUp_set hN hist) hjs
   have h2 := wpOp_putIf hoj (hfree j oj hoj hji hjun hnot) (fun cs b => hsel i oi cs b hi) (fun cs b => hsel j oj cs b hoj) hQ hy h1
   refine wpOp_mono (fun a' w' h3 => ⟨fun _ => h3.2.1 hN2, ih (listed.setIfInBounds j true) a' w' ?_ (ready_mono hr (Ne.symm hji)) h3.1 (h3.2.1 hN2) (noneUp_set hN hjs) ?_⟩) h2
   ·intro k ok hk hki hku hno
    refine hfree k ok hk hki ?_ hno
    by_cases hjk : j = k
    ·rw [← hjk]; exact hjun
    ·rw [getD_set_ne true hjk] at hku; exact hku
   ·rw [Array.setIfInBounds_comm _ _ hji]
    exact h3.2.2
theorem noneUp_of {listed : Array Bool} (h : sts.all (fun k => !(listed.getD k true)) = true) : noneUp sts listed := fun k hk => by
 have := List.all_eq_true.1 h k hk
 simpa using this
/-- The stores wait for number 'i' (to be reckoned). -/
def waitFor (md : Region.Mode) (ops : Array Oper) (sts : List Nat) (i : Nat) : Bool := sts.all fun k => match ops[k]? with
 | some o => o.after.any fun e => Region.binds md e && e.on == i
 | none => true
theorem waitFor_spec {i : Nat} (h : waitFor md ops sts i = true) : ∀ k, k ∈ sts → ∀ ok, ops[k]? = some ok → ∃ e ∈ ok.after, Region.binds md e = true ∧ e.on = i := fun k hk ok hok => by
 have h1 := List.all_eq_true.1 h k hk
 simp only [hok, Array.any_eq_true'] at h1
 obtain ⟨e, he, h2⟩ := h1
 simp only [Bool.and_eq_true, beq_iff_eq] at h2
 exact ⟨e, he, h2.1, h2.2⟩
theorem wpL_take {i : Nat} {oi : Oper} {v : Value} {fuel : Nat} {listed : Array Bool} {a : Act} {w : World} (hi : ops[i]? = some oi)
  (hs : Region.noSelect ops = true) (hf : Region.free md ops listed i = true) (hr : (Region.ready md ops listed).contains i = true) (hwt : waitFor md ops sts i = true) (hni : sts.contains i = false) (hno : sts.all (fun k => !(listed.getD k true)) = true)
  (hQ : ∀ c a w, Q (.panic c) (a.put oi.dst v) w → Q (.panic c) a w) (hy : YieldsIf P ops S oi v a) (hS : S w)
  (h : wpL P md ops Q S sts fuel (listed.setIfInBounds i true) (a.put oi.dst v) w) : wpL P md ops Q S sts (fuel + 1) listed a w :=
 wpL_first hi (Region.noSelect_spec hs) hQ (fun hm => by rw [List.contains_eq_mem] at hni; simp [hm] at hni) (waitFor_spec hwt) fuel listed a w (Region.free_spec hi hf) (by simpa using hr) hy hS (noneUp_of hno) h
def AllL (P : Program) (md : Region.Mode) (ops : Array Oper) (Q : Exit → Act → World → Prop) (S : World → Prop) (sts : List Nat) (fuel : Nat) (listed : Array Bool) (a : Act) (w : World) (rs : List Nat) : Prop :=
 ∀ i ∈ rs, wpOp P ops Q i (fun a' w' => (noneUp sts (listed.setIfInBounds i true) → S w') ∧ wpL P md ops Q S sts fuel (listed.setIfInBounds i true) a' w') a w
theorem AllL.nil {fuel : Nat} {listed : Array Bool} {a : Act} {w : World} : AllL P md ops Q S sts fuel listed a w [] := fun _ h => by cases h
/-- An operation that is none of the stores: S anew. -/
theorem AllL.cons {fuel : Nat} {listed : Array Bool} {a : Act} {w : World} {i : Nat} {o : Oper} {rs : List Nat} (ho : ops[i]? = some o)
  (h : ∀ K' : Act → World → Prop, Shut (∀ a w, S w → wpL P md ops Q S sts fuel (listed.setIfInBounds i true) a w → K' a w) → if Region.wanted o (yielded ops a.tmps) = true then Oper.wp P o a w K' Q else K' (a.put o.dst undef) w)
  (hs : AllL P md ops Q S sts fuel listed a w rs) : AllL P md ops Q S sts fuel listed a w (i :: rs) := fun j hj => by
 rcases List.mem_cons.1 hj with rfl | hj
 ·exact wpOp_step ho (fun K' hK => h K' (fun a w hS hW => hK a w ⟨fun _ => hS, hW⟩))
 ·exact hs j hj
/-- From the first of the stores on: S is asked no more. -/
theorem AllL.late {fuel : Nat} {listed : Array Bool} {a : Act} {w : World} {i : Nat} {o : Oper} {rs : List Nat} (ho : ops[i]? = some o) (hup : sts.any (fun k => (listed.setIfInBounds i true).getD k true) = true)
  (h : ∀ K' : Act → World → Prop, Shut (∀ a w, wpL P md ops Q S sts fuel (listed.setIfInBounds i true) a w → K' a w) → if Region.wanted o (yielded ops a.tmps) = true then Oper.wp P o a w K' Q else K' (a.put o.dst undef) w)
  (hs : AllL P md ops Q S sts fuel listed a w rs) : AllL P md ops Q S sts fuel listed a w (i :: rs) := fun j hj => by
 rcases List.mem_cons.1 hj with rfl | hj
 ·refine wpOp_step ho (fun K' hK => h K' (fun a w hW => hK a w ⟨fun hN => ?_, hW⟩))
  obtain ⟨k, hk, hk2⟩ := List.any_eq_true.1 hup
  rw [hN k hk] at hk2
  exact absurd hk2 (by simp)
 ·exact hs j hj
theorem wpL_ready {rs : List Nat} {fuel : Nat} {listed : Array Bool} {a : Act} {w : World} (hr : Region.ready md ops listed = rs) (hne : rs ≠ [])
  (h : AllL P md ops Q S sts fuel listed a w rs) : wpL P md ops Q S sts (fuel + 1) listed a w := ⟨fun h0 => absurd (hr ▸ h0) hne, hr ▸ h⟩
theorem wpL_done {listed : Array Bool} {a : Act} {w : World} (hr : Region.ready md ops listed = []) (h : Q .normal a w) : ∀ fuel, wpL P md ops Q S sts fuel listed a w
 | 0 => ⟨hr, h⟩
 | _ + 1 => ⟨fun _ => h, by rw [hr]; simp⟩
theorem wp_region_late (sts : List Nat) (S : World → Prop) {id : Nat} {a : Act} {w : World} (hm : P.follows .mixedOrders = true) (h : wpL P .any ops Q S sts ops.size (Array.replicate ops.size false) a w.drew) : (Code.region id ops true).wp P Q a w :=
 wp_region_any hm (wpL_any _ _ _ _ h)
/-- An operation that yields in every world. -/
theorem wpL_firstT {i : Nat} {oi : Oper} {v : Value} (hi : ops[i]? = some oi) (hsel : ∀ (j : Nat) (o : Oper) cs b, ops[j]? = some o → o.op ≠ .select cs b)
  (hQ : ∀ c a w, Q (.panic c) (a.put oi.dst v) w → Q (.panic c) a w) (hist : i ∉ sts) :
  ∀ (fuel : Nat) (listed : Array Bool) (a : Act) (w : World),
   (∀ j oj, ops[j]? = some oj → j ≠ i → listed.getD j true = false → (∀ e ∈ oj.after, Region.binds md e = true → e.on ≠ i) → oi.apart ops oj = true) →
   i ∈ Region.ready md ops listed → YieldsIf P ops (fun _ => True) oi v a → (noneUp sts listed → S w) →
   wpL P md ops Q S sts fuel (listed.setIfInBounds i true) (a.put oi.dst v) w → wpL P md ops Q S sts (fuel + 1) listed a w := by
 intro fuel
 have hback : ∀ listed : Array Bool, noneUp sts (listed.setIfInBounds i true) → noneUp sts listed := fun listed h k hk => by
  have hne : i ≠ k := fun e => hist (e ▸ hk)
  have := h k hk
  rw [← this]
  simp [Array.getD_eq_getD_getElem?, hne]
 induction fuel with
 | zero =>
  intro listed a w _ hr hy hS H
  refine ⟨fun h => (by rw [h] at hr; cases hr), fun j hj => ?_⟩
  by_cases hji : j = i
  ·rw [hji]; exact hy.wpOp hi trivial ⟨fun hN => hS (hback _ hN), H⟩
  ·have := ready_mono hj hji
   rw [H.1] at this
   cases this
 | succ fuel ih =>
  intro listed a w hfree hr hy hS H
  refine ⟨fun h => (by rw [h] at hr; cases hr), fun j hj => ?_⟩
  by_cases hji : j = i
  ·rw [hji]; exact hy.wpOp hi trivial ⟨fun hN => hS (hback _ hN), H⟩
  ·have h1 := H.2 j (ready_mono hj hji)
   obtain ⟨hjun, oj, hoj, hall⟩ := mem_ready.1 hj
   have hun := (mem_ready.1 hr).1
   have hnot : ∀ e ∈ oj.after, Region.binds md e = true → e.on ≠ i := fun e he hb heq => by
    have q1 := hall e he hb
    rw [heq] at q1
    rcases Nat.lt_or_ge i listed.size with h' | h'
    ·simp [h'] at hun q1; rw [hun] at q1; cases q1
    ·simp [Array.getElem?_eq_none h'] at q1
   have h2 := wpOp_putIf hoj (hfree j oj hoj hji hjun hnot) (fun cs b => hsel i oi cs b hi) (fun cs b => hsel j oj cs b hoj) hQ hy h1
   have hS2 : ∀ w' : World, (noneUp sts ((listed.setIfInBounds i true).setIfInBounds j true) → S w') → noneUp sts (listed.setIfInBounds j true) → S w' := fun w' h hN =>
    h (by rw [Array.setIfInBounds_comm _ _ (Ne.symm hji)]; exact noneUp_set hN hist)
   refine wpOp_mono (fun a' w' h3 => ⟨hS2 w' h3.2.1, ih (listed.setIfInBounds j true) a' w' ?_ (ready_mono hr (Ne.symm hji)) h3.1 (hS2 w' h3.2.1) ?_⟩) h2
   ·intro k ok hk hki hku hno
    refine hfree k ok hk hki ?_ hno
    by_cases hjk : j = k
    ·rw [← hjk]; exact hjun
    ·rw [getD_set_ne true hjk] at hku; exact hku
   ·rw [Array.setIfInBounds_comm _ _ hji]
    exact h3.2.2
theorem wpL_takeT {i : Nat} {oi : Oper} {v : Value} {fuel : Nat} {listed : Array Bool} {a : Act} {w : World} (hi : ops[i]? = some oi)
  (hs : Region.noSelect ops = true) (hf : Region.free md ops listed i = true) (hr : (Region.ready md ops listed).contains i = true) (hni : sts.contains i = false)
  (hQ : ∀ c a w, Q (.panic c) (a.put oi.dst v) w → Q (.panic c) a w) (hy : YieldsIf P ops (fun _ => True) oi v a) (hS : noneUp sts listed → S w)
  (h : wpL P md ops Q S sts fuel (listed.setIfInBounds i true) (a.put oi.dst v) w) : wpL P md ops Q S sts (fuel + 1) listed a w :=
 wpL_firstT hi (Region.noSelect_spec hs) hQ (fun hm => by rw [List.contains_eq_mem] at hni; simp [hm] at hni) fuel listed a w (Region.free_spec hi hf) (by simpa using hr) hy hS h
end
end Go.Proofs.YtadfcdpalcgghaaDoor.Q

-- Why a set of tasks isn't right, as plain functions (no program in sight).
namespace Go.Proofs.YtadfcdpalcgghaaDoor.Q
open Go.RowKit Go.Proofs.YtadfcdpalcgghaaDoorW.PrintWords Go.Proofs.YtadfcdpalcgghaaDoorW.PrintLast Go.Proofs.YtadfcdpalcgghaaDoorW.PrintMore
attribute [local go_sem] max2_int min2_int max_two min_two max_three min_three max_four min_four   -- for this text's walks alone
set_option linter.unusedVariables false
set_option linter.unusedSimpArgs false

abbrev TK := S26
def inB (n a b : Int) : Bool := decide (n ≥ a) && decide (n ≤ b)
def tNamed (t : TK) (ahead : List TK) : Bool := named t.f0 && !(ahead.any (fun x => x.f0.toList == t.f0.toList))
def tTimed (t : TK) : Bool := inB t.f1 1 1048576 && inB t.f2 1 t.f1 && inB t.f3 1 t.f2 && inB t.f6 0 1000
def tModed (t : TK) : Bool := if t.f9 = 1 then inB t.f5 1 t.f3 && (t.f4 == 0) else inB t.f9 2 3 && inB t.f4 1 t.f2 && (t.f5 == 0)
def tFirm (t : TK) : Bool := inB t.f8 1 64 && inB t.f7 1 t.f8
def tRanked (t : TK) (ahead : List TK) : Bool := inB t.f10 0 255 && !(ahead.any (fun x => x.f10 == t.f10))
/-- What is wrong with a task behind others; 0: nothing. -/
def whyT (t : TK) (ahead : List TK) : Int := if tNamed t ahead = false then 3 else if tTimed t = false then 4 else if tModed t = false then 5 else if tFirm t = false then 6 else if tRanked t ahead = false then 7 else 0
def whyFrom : List TK → List TK → Int → Int × Int
 | [], _, _ => (0, -1)
 | t :: r, ahead, i => if whyT t ahead = 0 then whyFrom r (ahead ++ [t]) (i + 1) else (whyT t ahead, i)
def whyS (b : Int) (ts : List TK) : Int × Int := if inB b 1 1000 = false then (1, -1) else if inB (ts.length : Int) 1 16 = false then (2, -1) else whyFrom ts [] 0
end Go.Proofs.YtadfcdpalcgghaaDoor.Q

-- What is written into a strings.Builder: the kit's contracts at this dump, and print.numbers (walked by hand).
namespace Go.Proofs.YtadfcdpalcgghaaDoor.Q
open Go.RowKit Go.Proofs.YtadfcdpalcgghaaDoorW.PrintWords Go.Proofs.YtadfcdpalcgghaaDoorW.PrintLast Go.Proofs.YtadfcdpalcgghaaDoorW.PrintMore
attribute [local go_sem] max2_int min2_int max_two min_two max_three min_three max_four min_four   -- for this text's walks alone
set_option linter.unusedVariables false
set_option linter.unusedSimpArgs false

open Go.Shelf
/-- A builder in block b that holds these bytes. -/
def BldS (B b : Nat) (l : List UInt8) (w : World) : Prop := Lib.IsBuilderF 45 5 B b (Lib.byteCells l) w
/-- The table of strconv's, here and later. -/
def TabS (B : Nat) (w : World) : Prop := Lib.TabBelow Tryd.prog B w "internal/strconv.uint64pow10" .u64 Lib.pow10Tab
theorem TabS.on {B : Nat} {w w' : World} (h : TabS B w) (hb : Below B w w') : TabS B w' := Lib.TabBelow.on h hb
theorem bld_byte (B b : Nat) (l : List UInt8) (c : UInt8) (w : World) (h : BldS B b l w) (hl : l.length ≤ 1000000000) (hB : B ≤ w.heap.size) :
  Calls Tryd.prog 21 #[.pointer (some ⟨b, 0, none⟩), .int .u8 (c.toNat : Int)] w fun e w' => e = .returned .nilIface ∧ BldS B b (l ++ [c]) w' ∧ Below B w w' ∧ Lib.OthersKept 5 (some b) w w' := by
 have hc := Any.Builder_WriteByte_k Tryd.shWByte Tryd.shWByteX B b (Lib.byteCells l) (c.toNat : Int) w h (by rw [Lib.byteCells_length]; omega) hB
 change Calls Tryd.prog 21 _ _ _ at hc
 refine hc.mono ?_
 rintro e w' ⟨he, hI, hb, hk⟩
 refine ⟨he, ?_, hb, hk⟩
 unfold BldS
 rw [Lib.byteCells_append]
 exact .inr hI
theorem bld_string (B b : Nat) (l : List UInt8) (s : ByteArray) (w : World) (h : BldS B b l w) (hl : l.length + s.size ≤ 1000000000) (hB : B ≤ w.heap.size) :
  Calls Tryd.prog 19 #[.pointer (some ⟨b, 0, none⟩), .string s] w fun e w' => e = .returned (.tuple #[.int .i64 s.size, .nilIface]) ∧ BldS B b (l ++ s.data.toList) w' ∧ Below B w w' ∧ Lib.OthersKept 5 (some b) w w' := by
 have hc := Any.Builder_WriteString_k Tryd.shWString Tryd.shWStringX B b (Lib.byteCells l) s w h (by rw [Lib.byteCells_length]; omega) hB
 change Calls Tryd.prog 19 _ _ _ at hc
 refine hc.mono ?_
 rintro e w' ⟨he, hI, hb, hk⟩
 refine ⟨he, ?_, hb, hk⟩
 unfold BldS
 rw [Lib.byteCells_append, ← Lib.strCells_eq]
 exact .inr hI
theorem bld_out (B b : Nat) (l : List UInt8) (w : World) (h : BldS B b l w) (hB : B ≤ w.heap.size) :
  Calls Tryd.prog 22 #[.pointer (some ⟨b, 0, none⟩)] w fun e w' => e = .returned (.string ⟨l.toArray⟩) ∧ Below B w w' := by
 have hc := Any.Builder_String_any_k Tryd.shBString Tryd.shBStringX B b l w h hB
 change Calls Tryd.prog 22 _ _ _ at hc
 exact hc.mono fun e w' ⟨he, _, hb, _⟩ => ⟨he, hb⟩
theorem itoa_ask (n : Int) (h0 : -9223372036854775808 ≤ n) (h1 : n ≤ 9223372036854775807) (B : Nat) (w : World) (ht : TabS B w) :
  Calls Tryd.prog 33 #[.int .i64 n] w fun e w' => e = .returned (.string ⟨(Lib.itoa n).toArray⟩) ∧ Below w.heap.size w w' := by
 have hc := Any.strconv_Itoa Tryd.shItoa n h0 h1 w (Lib.TabBelow.here ht)
 change Calls Tryd.prog 33 _ _ _ at hc
 refine hc.mono ?_
 rintro e w' ⟨he, k, os, rfl⟩
 exact ⟨he, Lib.below_grow w.heap.size w (Nat.le_refl _) k os⟩
theorem BldS.below {B b : Nat} {l : List UInt8} {w w' : World} (h : BldS B b l w) (hb : Below w.heap.size w w') : BldS B b l w' := Lib.IsBuilderF.below h hb
theorem others_below {e : TypeId} {b : Option Nat} {w w' : World} (h : Below w.heap.size w w') : Lib.OthersKept e b w w' := fun k o hk _ _ => by
 have hlt : k < w.heap.size := by
  rcases Nat.lt_or_ge k w.heap.size with h | h
  ·exact h
  ·rw [Array.getElem?_eq_none h] at hk; cases hk
 exact (h.block k hlt).trans hk
/-- Numbers, a blank ahead of each. -/
def numsB : List Int → List UInt8
 | [] => []
 | n :: r => 32 :: (Lib.itoa n ++ numsB r)
theorem numsB_snoc : ∀ (l : List Int) (n : Int), numsB (l ++ [n]) = numsB l ++ 32 :: Lib.itoa n
 | [], n => by simp [numsB]
 | a :: r, n => by rw [List.cons_append, numsB, numsB, numsB_snoc r n]; simp
theorem numsB_len : ∀ (l : List Int), (∀ n ∈ l, -9223372036854775808 ≤ n ∧ n ≤ 9223372036854775807) → (numsB l).length ≤ 22 * l.length
 | [], _ => by simp [numsB]
 | n :: r, h => by
  have h1 := numsB_len r (fun x hx => h x (List.mem_cons_of_mem _ hx))
  have h2 := Lib.itoa_length_le n (h n List.mem_cons_self).1 (h n List.mem_cons_self).2
  rw [numsB, List.length_cons, List.length_append, List.length_cons]
  omega
set_option maxHeartbeats 4000000 in
set_option maxRecDepth 100000 in
theorem prt_numbers (B b : Nat) (acc : List UInt8) (A : Option Addr) (l : List Int) (W : World) (hI : BldS B b acc W) (hB : B ≤ W.heap.size) (ht : TabS B W) (hC : ∀ w', Lib.OthersKept 5 (some b) W w' → Kd.C (Kd.int .i64) w' A l.length l)
  (hn : ∀ n ∈ l, -9223372036854775808 ≤ n ∧ n ≤ 9223372036854775807) (hl : acc.length ≤ 100000000) (hl2 : l.length ≤ 1000) :
  Calls Tryd.prog 20 #[.pointer (some ⟨b, 0, none⟩), .slice A l.length l.length] W fun e w' => e = .returned (.tuple #[]) ∧ BldS B b (acc ++ numsB l) w' ∧ Below B W w' := by
 have HC := Aside0.mk hC
 have HN := Aside0.mk hn
 have HT := Aside0.mk ht
 have HI0 := Aside0.mk hI
 clear hC hn ht hI
 go_enter Tryd.func20, Tryd.ntmps20
 go_wp2_with fail
 go_loopg [8] l.length (fun kk v8 wr => ∃ i : Nat, v8 = .int .i64 i ∧ i + kk = l.length ∧ Aside0 (BldS B b (acc ++ numsB (l.take i)) wr) ∧ Aside0 (Below B W wr) ∧ Aside0 (Lib.OthersKept 5 (some b) W wr))
 case atStart => exact ⟨0, rfl, by omega, ⟨by simpa [numsB] using HI0.out⟩, ⟨Below.refl _ _⟩, ⟨Lib.OthersKept.refl _ _ _⟩⟩
 case round =>
  clear HI0
  obtain ⟨i, rfl, hik, HI, HB, HK⟩ := hrel
  by_cases hlt : i < l.length
  ·have hd : decide ((i : Int) < (l.length : Int)) = true := by simp; omega
   obtain ⟨ad, e, o1⟩ := Kd.at_int (HC.out wr HK.out) (i : Int) (by omega) (by omega)
   cases e
   obtain ⟨n, hnn⟩ : ∃ n, l[i] = n := ⟨_, rfl⟩
   have hrd : rd l (i : Int) = n := by rw [← hnn]; simp [rd, List.getD_eq_getElem?_getD, List.getElem?_eq_getElem hlt]
   rw [hrd] at o1
   simp only [Int.toNat_natCast] at o1
   have HNN : Aside0 (l.take (i + 1) = l.take i ++ [n]) := ⟨by rw [List.take_succ_eq_append_getElem hlt, hnn]⟩
   have HR : Aside0 (-9223372036854775808 ≤ n ∧ n ≤ 9223372036854775807) := ⟨HN.out n (by rw [← hnn]; exact List.getElem_mem hlt)⟩
   have hlen := numsB_len (l.take i) (fun x hx => HN.out x (List.mem_of_mem_take hx))
   have hlt2 : (l.take i).length ≤ 1000 := by rw [List.length_take]; omega
   have HL : Aside0 ((acc ++ numsB (l.take i)).length ≤ 200000000) := ⟨by rw [List.length_append]; omega⟩
   have p0 : (0 : Int) ≤ i := by omega
   have p1 : (i : Int) < (l.length : Int) := by omega
   clear hnn hrd hlen hlt2
   go_wp2_with fail
   refine (bld_byte B b _ 32 wr HI.out (by have := HL.out; omega) (Nat.le_trans hB HB.out.size)).mono ?_
   rintro e w1 ⟨rfl, hI1, hb1, hk1⟩
   have HI1 := Aside0.mk hI1
   have HB1 := Aside0.mk (HB.out.trans hb1)
   have HK1 := Aside0.mk (HK.out.trans hk1)
   clear hI1 hb1 hk1 HI HB HK o1
   go_wp2_with fail
   refine (itoa_ask n HR.out.1 HR.out.2 B w1 (HT.out.on HB1.out)).mono ?_
   rintro e w2 ⟨rfl, hb2⟩
   have HI2 := Aside0.mk (HI1.out.below hb2)
   have HB2 := Aside0.mk (HB1.out.trans (hb2.mono (Nat.le_trans hB HB1.out.size)))
   have HK2 := Aside0.mk (HK1.out.trans (others_below hb2))
   clear hb2 HI1 HB1 HK1
   go_wp2_with fail
   have hsz : (Lib.itoa n).length ≤ 21 := Lib.itoa_length_le n HR.out.1 HR.out.2
   refine (bld_string B b _ ⟨(Lib.itoa n).toArray⟩ w2 HI2.out (by have := HL.out; rw [List.length_append]; show _ + (Lib.itoa n).toArray.size ≤ _; simp only [List.length_cons, List.length_nil, List.size_toArray]; omega) (Nat.le_trans hB HB2.out.size)).mono ?_
   rintro e w3 ⟨rfl, hI3, hb3, hk3⟩
   have HI3 : Aside0 (BldS B b (acc ++ numsB (l.take (i + 1))) w3) := ⟨by
    rw [HNN.out, numsB_snoc]
    have e : ((⟨(Lib.itoa n).toArray⟩ : ByteArray).data.toList) = Lib.itoa n := rfl
    rw [e] at hI3
    simpa using hI3⟩
   have HB3 := Aside0.mk (HB2.out.trans hb3)
   have HK3 := Aside0.mk (HK2.out.trans hk3)
   clear hI3 hb3 hk3 HI2 HB2 HK2 hsz
   go_wp2_with fail
   go_roundg (l.length - (i + 1))
   case measure => omega
   case rel => exact ⟨i + 1, by first | rfl | simp, by omega, HI3, HB3, HK3⟩
  ·have hd : decide ((i : Int) < (l.length : Int)) = false := by simp; omega
   go_wp2_with fail
   first | go_end0 | ((try simp only [Exit.inBlock, Exit.then]); refine bodyPost_ret (results_none rfl _ _ _) rfl ?_)
   refine ⟨rfl, ?_, HB.out⟩
   have := HI.out
   rwa [List.take_of_length_le (by omega)] at this
end Go.Proofs.YtadfcdpalcgghaaDoor.Q

-- Whether a task behind others has a name, or a priority, of its own: walked by hand.
namespace Go.Proofs.YtadfcdpalcgghaaDoor.Q
open Go.RowKit Go.Proofs.YtadfcdpalcgghaaDoorW.PrintWords Go.Proofs.YtadfcdpalcgghaaDoorW.PrintLast Go.Proofs.YtadfcdpalcgghaaDoorW.PrintMore
attribute [local go_sem] max2_int min2_int max_two min_two max_three min_three max_four min_four   -- for this text's walks alone
set_option linter.unusedVariables false
set_option linter.unusedSimpArgs false

def tkC (x : TK) : Array Value := #[.string x.f0, .int .i64 x.f1, .int .i64 x.f2, .int .i64 x.f3, .int .i64 x.f4, .int .i64 x.f5, .int .i64 x.f6, .int .i64 x.f7, .int .i64 x.f8, .int .i64 x.f9, .int .i64 x.f10]
def tkV (x : TK) : Value := .agg (tkC x)
set_option maxHeartbeats 1000000 in
set_option maxRecDepth 100000 in
theorem index_any (W : World) (A : Option Addr) (c : Nat) (xs : List TK) (cb : Array Value) (pr : TK → Bool) (g : Nat) (eg : ∀ args w, (callFunc g args).run Tryd.prog w = .ok (.enter g args) w) (hxs : Kd.C k26 W A xs.length xs) (hc : xs.length ≤ c) (hlen : xs.length ≤ 1000000)
  (hcmp : ∀ x, ∀ W', Below W.heap.size W W' → Calls Tryd.prog g (#[tkV x] ++ cb) W' fun e w' => e = .returned (.bool (pr x)) ∧ Below W'.heap.size W' w') :
  Calls Tryd.prog 71 #[.slice A xs.length c, .func (.func g) #[] cb] W fun e w' => ∃ r : Int, e = .returned (.int .i64 r) ∧ (decide (r ≥ 0) = xs.any pr) ∧ Below W.heap.size W w' := by
 have HC := Aside0.mk hcmp
 have HX := Aside0.mk hxs
 clear hcmp hxs
 go_enter Tryd.func71, Tryd.ntmps71
 go_wp2
 go_loopg [8] xs.length (fun kx v8 wr => ∃ i : Nat, v8 = .int .i64 i ∧ i + kx = xs.length ∧ Aside0 ((xs.take i).any pr = false) ∧ Aside0 (Below W.heap.size W wr))
 case atStart => exact ⟨0, rfl, by omega, ⟨by simp⟩, ⟨Below.refl _ _⟩⟩
 case round =>
  obtain ⟨i, rfl, hik, HN, HB⟩ := hrel
  by_cases hlt : i < xs.length
  ·have hd : decide ((i : Int) < (xs.length : Int)) = true := by simp; omega
   obtain ⟨ad, e, x0, x1, x2, x3, x4, x5, x6, x7, x8, x9, x10⟩ := at_T26 (Kd.C_below HX.out HB.out) (i : Int) (by omega) (by omega)
   cases e
   simp only [Int.toNat_natCast] at x0 x1 x2 x3 x4 x5 x6 x7 x8 x9 x10
   obtain ⟨x, hx⟩ : ∃ x, rd_T26 xs (i : Int) = x := ⟨_, rfl⟩
   have HXI : Aside0 (xs[i]? = some x) := ⟨by rw [← hx]; simp [rd_T26, List.getD_eq_getElem?_getD, List.getElem?_eq_getElem hlt]⟩
   rw [hx] at x0 x1 x2 x3 x4 x5 x6 x7 x8 x9 x10
   have hcl := HC.out x wr HB.out
   have p0 : (0 : Int) ≤ i := by omega
   have p1 : (i : Int) < (xs.length : Int) := by omega
   clear hx
   go_wp2
   refine hcl.mono ?_
   rintro e w' ⟨rfl, hb⟩
   have HB2 := Aside0.mk (below_step HB.out hb)
   cases hp : pr x with
   | true =>
    have HA : Aside0 (xs.any pr = true) := ⟨List.any_eq_true.2 ⟨x, List.mem_of_getElem? HXI.out, hp⟩⟩
    clear hcl hb HB hp
    go_wp2
    go_ret
    exact ⟨i, rfl, by rw [HA.out]; simp, HB2.out⟩
   | false =>
    have HN2 : Aside0 ((xs.take (i + 1)).any pr = false) := ⟨by
     have h := HXI.out
     rw [List.getElem?_eq_getElem hlt] at h
     rw [List.take_succ_eq_append_getElem hlt, List.any_append, HN.out, Option.some.inj h]
     simp [hp]⟩
    clear hcl hb HB hp HN
    go_wp2
    go_roundg (xs.length - (i + 1))
    case measure => omega
    case rel => exact ⟨i + 1, by first | rfl | simp, by omega, HN2, HB2⟩
  ·have hd : decide ((i : Int) < (xs.length : Int)) = false := by simp; omega
   have HA : Aside0 (xs.any pr = false) := ⟨by have := HN.out; rwa [List.take_of_length_le (by omega)] at this⟩
   go_wp2
   go_ret
   exact ⟨-1, rfl, by rw [HA.out]; rfl, HB.out⟩
set_option maxHeartbeats 1000000 in
set_option maxRecDepth 100000 in
theorem contains_any (W : World) (A : Option Addr) (c : Nat) (xs : List TK) (cb : Array Value) (pr : TK → Bool) (g : Nat) (eg : ∀ args w, (callFunc g args).run Tryd.prog w = .ok (.enter g args) w) (hxs : Kd.C k26 W A xs.length xs) (hc : xs.length ≤ c) (hlen : xs.length ≤ 1000000)
  (hcmp : ∀ x, ∀ W', Below W.heap.size W W' → Calls Tryd.prog g (#[tkV x] ++ cb) W' fun e w' => e = .returned (.bool (pr x)) ∧ Below W'.heap.size W' w') :
  Calls Tryd.prog 63 #[.slice A xs.length c, .func (.func g) #[] cb] W fun e w' => e = .returned (.bool (xs.any pr)) ∧ Below W.heap.size W w' := by
 have H := Aside0.mk (index_any W A c xs cb pr g eg hxs hc hlen hcmp)
 clear hxs hcmp
 go_enter Tryd.func63, Tryd.ntmps63
 go_wp2_with fail
 refine H.out.mono ?_
 rintro e w' ⟨r, rfl, hr, hb⟩
 have HB := Aside0.mk hb
 have HR := Aside0.mk hr
 clear hb hr H
 go_wp2_with fail
 go_ret
 exact ⟨by rw [← HR.out]; rfl, HB.out⟩
set_option maxHeartbeats 1000000 in
set_option maxRecDepth 100000 in
theorem named_same (t x : TK) (b : Nat) (W : World) (hb : W.heap[b]? = some (.cells (tkC t) 26 (0, 0))) :
  Calls Tryd.prog 64 (#[tkV x] ++ #[.pointer (some ⟨b, 0, none⟩)]) W fun e w' => e = .returned (.bool (x.f0.toList == t.f0.toList)) ∧ Below W.heap.size W w' := by
 have HB := Aside0.mk (Below.refl W.heap.size W)
 have x0 : ∀ o, (W.alloc o).cell? ⟨b, 0, none⟩ = some (.string t.f0) := fun o => blk_cell (blk_alloc hb o) 0
 clear hb
 unfold tkV tkC
 go_enter Tryd.func64, Tryd.ntmps64
 go_wp2
 go_ret
 exact ⟨rfl, by repeat (first | exact HB.out | apply below_drew | apply below_alloc)⟩
set_option maxHeartbeats 1000000 in
set_option maxRecDepth 100000 in
theorem ranked_same (t x : TK) (b : Nat) (W : World) (hb : W.heap[b]? = some (.cells (tkC t) 26 (0, 0))) :
  Calls Tryd.prog 65 (#[tkV x] ++ #[.pointer (some ⟨b, 0, none⟩)]) W fun e w' => e = .returned (.bool (x.f10 == t.f10)) ∧ Below W.heap.size W w' := by
 have HB := Aside0.mk (Below.refl W.heap.size W)
 have x0 : ∀ o, (W.alloc o).cell? ⟨b, 10, none⟩ = some (.int .i64 t.f10) := fun o => blk_cell (blk_alloc hb o) 10
 clear hb
 unfold tkV tkC
 go_enter Tryd.func65, Tryd.ntmps65
 go_wp2
 go_ret
 exact ⟨rfl, by repeat (first | exact HB.out | apply below_drew | apply below_alloc)⟩
end Go.Proofs.YtadfcdpalcgghaaDoor.Q

-- print.Task: walked by hand, in whatever world that holds strconv's table.
namespace Go.Proofs.YtadfcdpalcgghaaDoor.Q
open Go.RowKit Go.Proofs.YtadfcdpalcgghaaDoorW.PrintWords Go.Proofs.YtadfcdpalcgghaaDoorW.PrintLast Go.Proofs.YtadfcdpalcgghaaDoorW.PrintMore
attribute [local go_sem] max2_int min2_int max_two min_two max_three min_three max_four min_four   -- for this text's walks alone
set_option linter.unusedVariables false
set_option linter.unusedSimpArgs false

/-- A row of numbers in a block. -/
theorem row_C {w : World} {g : Nat} {l : List Int} (h : w.heap[g]? = some (.cells (l.map (Value.int .i64)).toArray 3 (0, 0))) (hl : l.length ≤ 1000000) : Kd.C (Kd.int .i64) w (some ⟨g, 0, none⟩) l.length l := by
 have ho : w.ownsRow 0 3 1 (.slice (some ⟨g, 0, none⟩) l.length l.length) l.length (encs (Value.int .i64) l) := by
  refine ⟨by simp [encs], .inr ⟨g, l.length, _, rfl, Nat.zero_le _, h, by first | omega | simp, by first | (show l.length ≤ maxLen; have : maxLen = 9223372036854775807 := rfl; omega) | simp, by simp, ?_⟩⟩
  simp [encs, List.take_of_length_le]
 have hR : Kd.R (Kd.int .i64) 3 w 0 (fun _ => True) (.slice (some ⟨g, 0, none⟩) l.length l.length) l := Kd.R_of_own ho (fun _ _ => trivial)
 exact (Kd.R_reads' hR).2.2
def wTaskB : ByteArray := ⟨#[116, 97, 115, 107, 32]⟩
def modeW (m : Int) : ByteArray := if m = 1 then ⟨#[114, 101, 116, 114, 121]⟩ else if m = 2 then ⟨#[98, 108, 111, 99, 107]⟩ else if m = 3 then ⟨#[98, 97, 99, 107, 117, 112]⟩ else ⟨#[110, 111, 110, 101]⟩
theorem mode_eval (m : Int) : print_Mode.f m = some (modeW m) := by
 unfold print_Mode.f modeW
 split
 ·rfl
 ·split
  ·rfl
  ·split <;> rfl
theorem modeW_len (m : Int) : (modeW m).size ≤ 6 := by
 unfold modeW
 split
 ·decide
 ·split
  ·decide
  ·split <;> decide
/-- A task's line. -/
def lineB (t : TK) : List UInt8 := wTaskB.data.toList ++ (t.f0.data.toList ++ (numsB [t.f1, t.f2, t.f3] ++ 32 :: ((modeW t.f9).data.toList ++ numsB [t.f4, t.f5, t.f6, t.f7, t.f8, t.f10])))
def intT (t : TK) : Prop := ∀ n ∈ [t.f1, t.f2, t.f3, t.f4, t.f5, t.f6, t.f7, t.f8, t.f9, t.f10], -9223372036854775808 ≤ n ∧ n ≤ 9223372036854775807
set_option maxHeartbeats 4000000 in
set_option maxRecDepth 100000 in
theorem task_line (t : TK) (W : World) (hi : intT t) (hs : t.f0.size ≤ 1000000) (ht : TabS W.heap.size W) :
  Calls Tryd.prog 10 #[tkV t] W fun e w' => e = .returned (.string ⟨(lineB t).toArray⟩) ∧ Below W.heap.size W w' := by
 have HT := Aside0.mk ht
 have HN := Aside0.mk hi
 obtain ⟨gt, hgt⟩ : ∃ gt, W.heap.size = gt := ⟨_, rfl⟩
 obtain ⟨W1, hW1⟩ : ∃ W1, W1 = W.alloc (.cells (tkC t) 26 (0, 0)) := ⟨_, rfl⟩
 obtain ⟨W2, hW2⟩ : ∃ W2, W2 = W1.alloc (.cells #[.pointer none, .slice none 0 0] 45 (0, 0)) := ⟨_, rfl⟩
 obtain ⟨b, hb⟩ : ∃ b, W1.heap.size = b := ⟨_, rfl⟩
 have hb1 : b = gt + 1 := by rw [← hb, hW1, ← hgt]; simp
 have HW1 := Aside0.mk hW1
 have HW2 := Aside0.mk hW2
 have HI : Aside0 (BldS b b [] W2) := ⟨by rw [← hb, hW2]; exact Lib.IsBuilderF.of (Lib.fresh_isBuilder 45 5 W1)⟩
 have hsz : W2.heap.size = b + 1 := by rw [hW2, ← hb]; simp
 have HX : Aside0 (W2.heap[gt]? = some (.cells (tkC t) 26 (0, 0))) := ⟨by rw [hW2]; refine blk_alloc ?_ _; rw [hW1, ← hgt]; exact blk_new W _⟩
 have HWW : Aside0 (Below W.heap.size W W2) := ⟨by rw [hW2, hW1]; exact below_alloc (below_alloc (Below.refl _ _) _) _⟩
 have HTB : Aside0 (TabS b W2) := ⟨fun w' h' => HT.out w' (HWW.out.trans (h'.mono (by omega)))⟩
 have HB : Aside0 (Below b W2 W2) := ⟨Below.refl _ _⟩
 have HBW : Aside0 (b ≤ W2.heap.size) := ⟨by omega⟩
 have HBW0 : Aside0 (b < W2.heap.size) := ⟨by omega⟩
 have HGB : Aside0 (gt < b) := ⟨by omega⟩
 have HEB := Aside0.mk hb
 have HEG := Aside0.mk hgt
 have HEND : Aside0 (∀ w', Below b W2 w' → Below W.heap.size W w') := ⟨fun w' h' => HWW.out.trans (h'.mono (by omega))⟩
 clear ht hi hW1 hW2 hb hgt hb1 hsz
 unfold tkV
 unfold tkC at *
 go_enter Tryd.func10, Tryd.ntmps10
 go_wp2_with fail
 rw [← HW1.out, ← HW2.out]
 have hbe : W.heap.size + 1 = b := by rw [← HEB.out, HW1.out]; simp
 try rw [hbe]
 try rw [HEG.out]
 clear hbe
 refine (bld_string b b [] wTaskB W2 HI.out (by decide) HBW.out).mono ?_
 rintro e w1 ⟨rfl, hI, hb, -⟩
 have HI2 := Aside0.mk hI
 have HB2 := Aside0.mk (HB.out.trans hb)
 clear HI HB hI hb
 have HI := HI2
 have HB := HB2
 clear HI2 HB2
 have y0 : w1.cell? ⟨gt, 0, none⟩ = some (.string t.f0) := blk_cell ((HB.out.block gt HGB.out).trans HX.out) 0
 go_wp2_with fail
 refine (bld_string b b _ t.f0 w1 HI.out (by have h1 : wTaskB.data.toList.length = 5 := rfl; simp only [List.nil_append, h1]; omega) (Nat.le_trans HBW.out HB.out.size)).mono ?_
 rintro e w2 ⟨rfl, hI, hb, -⟩
 have HI2 := Aside0.mk hI
 have HB2 := Aside0.mk (HB.out.trans hb)
 clear HI HB hI hb
 have HI := HI2
 have HB := HB2
 clear HI2 HB2
 clear y0
 have y1 : w2.cell? ⟨gt, 1, none⟩ = some (.int .i64 t.f1) := blk_cell ((HB.out.block gt HGB.out).trans HX.out) 1
 have y2 : w2.cell? ⟨gt, 2, none⟩ = some (.int .i64 t.f2) := blk_cell ((HB.out.block gt HGB.out).trans HX.out) 2
 have y3 : w2.cell? ⟨gt, 3, none⟩ = some (.int .i64 t.f3) := blk_cell ((HB.out.block gt HGB.out).trans HX.out) 3
 go_wp2_with fail
 obtain ⟨gw2, hgw2⟩ : ∃ g, w2.heap.size = g := ⟨_, rfl⟩
 obtain ⟨w3, hw3⟩ : ∃ x, x = w2.alloc (.cells #[.int .i64 t.f1, .int .i64 t.f2, .int .i64 t.f3] 3 (0, 0)) := ⟨_, rfl⟩
 have HRw2 : Aside0 (w3.heap[gw2]? = some (.cells #[.int .i64 t.f1, .int .i64 t.f2, .int .i64 t.f3] 3 (0, 0))) := ⟨by rw [hw3, ← hgw2]; exact blk_new _ _⟩
 have HI2 : Aside0 (BldS b b _ w3) := ⟨HI.out.below (by rw [hw3]; exact below_alloc (Below.refl _ _) _)⟩
 have HB2 : Aside0 (Below b W2 w3) := ⟨HB.out.trans (by rw [hw3]; exact (below_alloc (Below.refl w2.heap.size _) _).mono (Nat.le_trans HBW.out HB.out.size))⟩
 have HNB : Aside0 (gw2 ≠ b) := ⟨by have h1 := HB.out.size; have h2 := HBW0.out; rw [← hgw2]; omega⟩
 rw [← hw3, hgw2]
 clear hgw2 hw3 HI HB
 have HI := HI2
 have HB := HB2
 clear HI2 HB2
 clear y1 y2 y3
 refine (prt_numbers b b _ (some ⟨gw2, 0, none⟩) [t.f1, t.f2, t.f3] w3 HI.out (Nat.le_trans HBW.out HB.out.size) (HTB.out.on HB.out) (fun w' hk => row_C (hk _ _ HRw2.out (fun e => HNB.out (Option.some.inj e)) (fun c fz e => by cases e)) (by simp)) (fun n hn => HN.out n (by simp at hn ⊢; omega)) (by have h1 : wTaskB.data.toList.length = 5 := rfl; have h2 : t.f0.data.toList.length = t.f0.size := rfl; simp only [List.nil_append, List.length_append, h1, h2]; omega) (by simp)).mono ?_
 rintro e w4 ⟨rfl, hI, hb⟩
 have HI2 := Aside0.mk hI
 have HB2 := Aside0.mk (HB.out.trans hb)
 clear HI HB hI hb HRw2 HNB
 have HI := HI2
 have HB := HB2
 clear HI2 HB2
 have HL4 : Aside0 ((((([] ++ wTaskB.data.toList) ++ t.f0.data.toList) ++ numsB [t.f1, t.f2, t.f3])).length ≤ 2000000) := ⟨by
  have h1 : wTaskB.data.toList.length = 5 := rfl
  have h2 : t.f0.data.toList.length = t.f0.size := rfl
  have h3 := numsB_len [t.f1, t.f2, t.f3] (fun n hn => HN.out n (by simp at hn ⊢; omega))
  simp only [List.length_cons, List.length_nil] at h3
  simp only [List.nil_append, List.length_append, h1, h2]
  omega⟩
 go_wp2_with fail
 refine (bld_byte b b _ 32 w4 HI.out (by have := HL4.out; omega) (Nat.le_trans HBW.out HB.out.size)).mono ?_
 rintro e w5 ⟨rfl, hI, hb, -⟩
 have HI2 := Aside0.mk hI
 have HB2 := Aside0.mk (HB.out.trans hb)
 clear HI HB hI hb
 have HI := HI2
 have HB := HB2
 clear HI2 HB2
 have y9 : w5.cell? ⟨gt, 9, none⟩ = some (.int .i64 t.f9) := blk_cell ((HB.out.block gt HGB.out).trans HX.out) 9
 go_wp2_with fail
 refine (print_Mode.calls t.f9 (modeW t.f9) w5 (mode_eval _)).mono ?_
 rintro e w6 ⟨rfl, hd⟩
 have HI2 := Aside0.mk (HI.out.below hd.below)
 have HB2 := Aside0.mk (HB.out.trans (hd.below.mono (Nat.le_trans HBW.out HB.out.size)))
 clear HI HB hd y9
 have HI := HI2
 have HB := HB2
 clear HI2 HB2
 go_wp2_with fail
 refine (bld_string b b _ (modeW t.f9) w6 HI.out (by have h1 := HL4.out; have h2 := modeW_len t.f9; rw [List.length_append, List.length_cons, List.length_nil]; omega) (Nat.le_trans HBW.out HB.out.size)).mono ?_
 rintro e w7 ⟨rfl, hI, hb, -⟩
 have HI2 := Aside0.mk hI
 have HB2 := Aside0.mk (HB.out.trans hb)
 clear HI HB hI hb
 have HI := HI2
 have HB := HB2
 clear HI2 HB2
 have y4 : w7.cell? ⟨gt, 4, none⟩ = some (.int .i64 t.f4) := blk_cell ((HB.out.block gt HGB.out).trans HX.out) 4
 have y5 : w7.cell? ⟨gt, 5, none⟩ = some (.int .i64 t.f5) := blk_cell ((HB.out.block gt HGB.out).trans HX.out) 5
 have y6 : w7.cell? ⟨gt, 6, none⟩ = some (.int .i64 t.f6) := blk_cell ((HB.out.block gt HGB.out).trans HX.out) 6
 have y7 : w7.cell? ⟨gt, 7, none⟩ = some (.int .i64 t.f7) := blk_cell ((HB.out.block gt HGB.out).trans HX.out) 7
 have y8 : w7.cell? ⟨gt, 8, none⟩ = some (.int .i64 t.f8) := blk_cell ((HB.out.block gt HGB.out).trans HX.out) 8
 have y10 : w7.cell? ⟨gt, 10, none⟩ = some (.int .i64 t.f10) := blk_cell ((HB.out.block gt HGB.out).trans HX.out) 10
 go_wp2_with fail
 obtain ⟨gw7, hgw7⟩ : ∃ g, w7.heap.size = g := ⟨_, rfl⟩
 obtain ⟨w8, hw8⟩ : ∃ x, x = w7.alloc (.cells #[.int .i64 t.f4, .int .i64 t.f5, .int .i64 t.f6, .int .i64 t.f7, .int .i64 t.f8, .int .i64 t.f10] 3 (0, 0)) := ⟨_, rfl⟩
 have HRw7 : Aside0 (w8.heap[gw7]? = some (.cells #[.int .i64 t.f4, .int .i64 t.f5, .int .i64 t.f6, .int .i64 t.f7, .int .i64 t.f8, .int .i64 t.f10] 3 (0, 0))) := ⟨by rw [hw8, ← hgw7]; exact blk_new _ _⟩
 have HI2 : Aside0 (BldS b b _ w8) := ⟨HI.out.below (by rw [hw8]; exact below_alloc (Below.refl _ _) _)⟩
 have HB2 : Aside0 (Below b W2 w8) := ⟨HB.out.trans (by rw [hw8]; exact (below_alloc (Below.refl w7.heap.size _) _).mono (Nat.le_trans HBW.out HB.out.size))⟩
 have HNB : Aside0 (gw7 ≠ b) := ⟨by have h1 := HB.out.size; have h2 := HBW0.out; rw [← hgw7]; omega⟩
 rw [← hw8, hgw7]
 clear hgw7 hw8 HI HB
 have HI := HI2
 have HB := HB2
 clear HI2 HB2
 clear y4 y5 y6 y7 y8 y10
 refine (prt_numbers b b _ (some ⟨gw7, 0, none⟩) [t.f4, t.f5, t.f6, t.f7, t.f8, t.f10] w8 HI.out (Nat.le_trans HBW.out HB.out.size) (HTB.out.on HB.out) (fun w' hk => row_C (hk _ _ HRw7.out (fun e => HNB.out (Option.some.inj e)) (fun c fz e => by cases e)) (by simp)) (fun n hn => HN.out n (by simp at hn ⊢; omega)) (by have h1 := HL4.out; have h2 := modeW_len t.f9; have h3 : (modeW t.f9).data.toList.length = (modeW t.f9).size := rfl; rw [List.length_append, List.length_append, List.length_cons, List.length_nil, h3]; omega) (by simp)).mono ?_
 rintro e w9 ⟨rfl, hI, hb⟩
 have HI2 := Aside0.mk hI
 have HB2 := Aside0.mk (HB.out.trans hb)
 clear HI HB hI hb HRw7 HNB
 have HI := HI2
 have HB := HB2
 clear HI2 HB2
 go_wp2_with fail
 refine (bld_out b b _ w9 HI.out (Nat.le_trans HBW.out HB.out.size)).mono ?_
 rintro e wA ⟨rfl, hb⟩
 have HF := Aside0.mk (HEND.out _ (HB.out.trans hb))
 clear hb
 go_wp2_with fail
 go_ret
 exact ⟨rfl, HF.out⟩
instance (t : TK) : Decidable (intT t) := by unfold intT; infer_instance
def print_Task.f (a0_0 : ByteArray) (a0_1 : Int) (a0_2 : Int) (a0_3 : Int) (a0_4 : Int) (a0_5 : Int) (a0_6 : Int) (a0_7 : Int) (a0_8 : Int) (a0_9 : Int) (a0_10 : Int) : Option ByteArray := if intT ⟨a0_0, a0_1, a0_2, a0_3, a0_4, a0_5, a0_6, a0_7, a0_8, a0_9, a0_10⟩ ∧ a0_0.size ≤ 1000000 then some ⟨(lineB ⟨a0_0, a0_1, a0_2, a0_3, a0_4, a0_5, a0_6, a0_7, a0_8, a0_9, a0_10⟩).toArray⟩ else none
theorem print_Task.calls (a0_0 : ByteArray) (a0_1 : Int) (a0_2 : Int) (a0_3 : Int) (a0_4 : Int) (a0_5 : Int) (a0_6 : Int) (a0_7 : Int) (a0_8 : Int) (a0_9 : Int) (a0_10 : Int) (r : ByteArray) (w : World) (h : print_Task.f a0_0 a0_1 a0_2 a0_3 a0_4 a0_5 a0_6 a0_7 a0_8 a0_9 a0_10 = some r) (ht : TabS w.heap.size w) :
  Calls Tryd.prog 10 #[.agg #[.string a0_0, .int .i64 a0_1, .int .i64 a0_2, .int .i64 a0_3, .int .i64 a0_4, .int .i64 a0_5, .int .i64 a0_6, .int .i64 a0_7, .int .i64 a0_8, .int .i64 a0_9, .int .i64 a0_10]] w fun e w' => e = .returned (.string r) ∧ Below w.heap.size w w' := by
 unfold print_Task.f at h
 split at h
 ·rename_i hh
  have e := Option.some.inj h
  rw [← e]
  exact task_line ⟨a0_0, a0_1, a0_2, a0_3, a0_4, a0_5, a0_6, a0_7, a0_8, a0_9, a0_10⟩ w hh.1 hh.2 ht
 ·cases h
end Go.Proofs.YtadfcdpalcgghaaDoor.Q

-- What parse reads, token by token, as plain functions (no program in sight).
namespace Go.Proofs.YtadfcdpalcgghaaDoor.Q
open Go.RowKit Go.Proofs.YtadfcdpalcgghaaDoorW.PrintWords Go.Proofs.YtadfcdpalcgghaaDoorW.PrintLast Go.Proofs.YtadfcdpalcgghaaDoorW.PrintMore
attribute [local go_sem] max2_int min2_int max_two min_two max_three min_three max_four min_four   -- for this text's walks alone
set_option linter.unusedVariables false
set_option linter.unusedSimpArgs false

abbrev TOK := S61
structure PS where
 l : List TOK
 e : Int
 ln : Int
 cl : Int
 b : Int
 ts : List TK
 bt : TOK
 hs : List TOK
def PS.now (p : PS) : TOK := p.l.headD z61
def PS.fail (p : PS) : PS := if p.e = 0 then { p with e := 5, ln := p.now.f3, cl := p.now.f4 } else p
/-- Whether the next token is taken. -/
def PS.fits (p : PS) (kind : Int) (texts : List ByteArray) : Bool := (p.e == 0) && (p.now.f0 == kind) && (texts.isEmpty || texts.any (fun x => x.toList == p.now.f1.toList))
def PS.take (p : PS) (kind : Int) (texts : List ByteArray) : PS × TOK := if p.fits kind texts = true then ({ p with l := p.l.tail }, p.now) else (p.fail, z61)
def PS.num (p : PS) : PS × Int := ((p.take 2 []).1, (p.take 2 []).2.f2)
def PS.nums : Nat → PS → PS × List Int
 | 0, p => (p, [])
 | n + 1, p => ((PS.nums n p).1.num.1, (PS.nums n p).2 ++ [(PS.nums n p).1.num.2])
def PS.fin (p : PS) : PS := if p.e = 0 ∧ p.now.f0 = 4 then p else (p.take 3 []).1
def PS.blank (p : PS) : PS := { p with l := p.l.dropWhile (fun t => t.f0 == 3) }
def wTask : ByteArray := ⟨#[116, 97, 115, 107]⟩
def wBurst : ByteArray := ⟨#[98, 117, 114, 115, 116]⟩
def wRetry : ByteArray := ⟨#[114, 101, 116, 114, 121]⟩
def wBlock : ByteArray := ⟨#[98, 108, 111, 99, 107]⟩
def wBackup : ByteArray := ⟨#[98, 97, 99, 107, 117, 112]⟩
def modeOf (s : ByteArray) : Int := if s = wRetry then 1 else if s = wBlock then 2 else if s = wBackup then 3 else 0
def PS.first (p : PS) : PS :=
 let p1 := (p.take 1 [wBurst]).1
 let p2 := { p1 with bt := p1.now }
 { p2.num.1 with b := p2.num.2 }.fin
def PS.one (p : PS) : PS :=
 let p1 := { p with hs := p.hs ++ [p.now] }
 let p2 := (p1.take 1 [wTask]).1
 let p3 := p2.take 1 []
 let p4 := PS.nums 3 p3.1
 let p5 := p4.1.take 1 [wRetry, wBlock, wBackup]
 let p6 := PS.nums 6 p5.1
 let n := fun i => p4.2.getD i 0
 let m := fun i => p6.2.getD i 0
 let p7 := p6.1.fin
 { p7 with ts := p7.ts ++ [⟨p3.2.f1, n 0, n 1, n 2, m 0, m 1, m 2, m 3, m 4, modeOf p5.2.f1, m 5⟩] }
/-- Where a set isn't right: an error, a line, a column. -/
def PS.wrong (p : PS) : Int × Int × Int :=
 let w := whyS p.b p.ts
 let t := if w.1 = 1 then p.bt else if w.1 = 2 then (if 0 < p.hs.length then p.hs.getD 16 z61 else p.now) else p.hs.getD w.2.toNat z61
 if w.1 = 0 then (0, 0, 0) else (1, t.f3, t.f4)
def PS.go : Nat → PS → PS
 | 0, q => q
 | n + 1, q => if q.e = 0 ∧ q.now.f0 ≠ 4 then PS.go n q.one.blank else q
def PS.init (l : List TOK) : PS := ⟨l, 0, 0, 0, 0, [], z61, []⟩
/-- What parse.Set tells of tokens. -/
def parseToks (l : List TOK) : Int × List TK × Int × Int × Int :=
 let p := PS.go l.length (PS.init l).blank.first.blank
 let r := if p.e = 0 then p.wrong else (p.e, p.ln, p.cl)
 if r.1 = 0 then (p.b, p.ts, 0, 0, 0) else (0, [], r)
end Go.Proofs.YtadfcdpalcgghaaDoor.Q

-- The parser goes on with fewer tokens, or fails (no program in sight).
namespace Go.Proofs.YtadfcdpalcgghaaDoor.Q
open Go.RowKit Go.Proofs.YtadfcdpalcgghaaDoorW.PrintWords Go.Proofs.YtadfcdpalcgghaaDoorW.PrintLast Go.Proofs.YtadfcdpalcgghaaDoorW.PrintMore
attribute [local go_sem] max2_int min2_int max_two min_two max_three min_three max_four min_four   -- for this text's walks alone
set_option linter.unusedVariables false
set_option linter.unusedSimpArgs false

theorem take_len (q : PS) (k : Int) (tx : List ByteArray) : (q.take k tx).1.l.length ≤ q.l.length := by
 unfold PS.take PS.fail
 split
 ·simp
 ·split <;> simp
theorem take_e (q : PS) (k : Int) (tx : List ByteArray) (h : q.e ≠ 0) : (q.take k tx).1.e ≠ 0 := by
 unfold PS.take PS.fits PS.fail
 have : (q.e == 0) = false := beq_eq_false_iff_ne.2 h
 rw [this]
 simp [h]
theorem take_lt (q : PS) (k : Int) (tx : List ByteArray) (hl : q.l ≠ []) (h : (q.take k tx).1.e = 0) : (q.take k tx).1.l.length < q.l.length := by
 have hp := List.length_pos_iff.2 hl
 unfold PS.take at h ⊢
 split
 ·simp; omega
 ·rename_i hf
  rw [if_neg hf] at h
  unfold PS.fail at h
  split at h
  ·exact absurd h (by show ¬ (5 : Int) = 0; omega)
  ·rename_i hn; exact absurd h hn
theorem take_hs (q : PS) (k : Int) (tx : List ByteArray) : (q.take k tx).1.hs = q.hs ∧ (q.take k tx).1.ts = q.ts ∧ (q.take k tx).1.b = q.b ∧ (q.take k tx).1.bt = q.bt := by
 unfold PS.take PS.fail
 split
 ·exact ⟨rfl, rfl, rfl, rfl⟩
 ·split <;> exact ⟨rfl, rfl, rfl, rfl⟩
theorem nums_len2 (n : Nat) (q : PS) : (PS.nums n q).1.l.length ≤ q.l.length := by
 induction n with
 | zero => exact Nat.le_refl _
 | succ n ih => exact Nat.le_trans (take_len _ 2 []) ih
theorem nums_e (n : Nat) (q : PS) (h : q.e ≠ 0) : (PS.nums n q).1.e ≠ 0 := by
 induction n with
 | zero => exact h
 | succ n ih => exact take_e _ 2 [] ih
theorem nums_hs (n : Nat) (q : PS) : (PS.nums n q).1.hs = q.hs ∧ (PS.nums n q).1.ts = q.ts := by
 induction n with
 | zero => exact ⟨rfl, rfl⟩
 | succ n ih =>
  have h := take_hs (PS.nums n q).1 2 []
  exact ⟨h.1.trans ih.1, h.2.1.trans ih.2⟩
theorem fin_len (q : PS) : q.fin.l.length ≤ q.l.length := by
 unfold PS.fin
 split
 ·exact Nat.le_refl _
 ·exact take_len _ 3 []
theorem fin_e (q : PS) (h : q.e ≠ 0) : q.fin.e ≠ 0 := by
 unfold PS.fin
 split
 ·exact h
 ·exact take_e _ 3 [] h
theorem fin_hs (q : PS) : q.fin.hs = q.hs ∧ q.fin.ts = q.ts := by
 unfold PS.fin
 split
 ·exact ⟨rfl, rfl⟩
 ·exact ⟨(take_hs q 3 []).1, (take_hs q 3 []).2.1⟩
theorem blank_len (q : PS) : q.blank.l.length ≤ q.l.length := by
 unfold PS.blank
 have : ∀ l : List TOK, (l.dropWhile (fun t => t.f0 == 3)).length ≤ l.length := by
  intro l
  induction l with
  | nil => exact Nat.le_refl _
  | cons a r ih =>
   rw [List.dropWhile_cons]
   split
   ·exact Nat.le_trans ih (by simp)
   ·exact Nat.le_refl _
 exact this _
theorem one_hs (q : PS) : q.one.hs.length = q.hs.length + 1 ∧ q.one.ts.length = q.ts.length + 1 := by
 unfold PS.one
 constructor
 ·simp only
  rw [(fin_hs _).1, (nums_hs _ _).1, (take_hs _ _ _).1, (nums_hs _ _).1, (take_hs _ _ _).1, (take_hs _ _ _).1]
  simp
 ·simp only [List.length_append, List.length_cons, List.length_nil]
  rw [(fin_hs _).2, (nums_hs _ _).2, (take_hs _ _ _).2.1, (nums_hs _ _).2, (take_hs _ _ _).2.1, (take_hs _ _ _).2.1]
theorem one_len (q : PS) (hl : q.l ≠ []) (h : q.one.e = 0) : q.one.l.length < q.l.length := by
 obtain ⟨p1, hp1⟩ : ∃ p1 : PS, { q with hs := q.hs ++ [q.now] } = p1 := ⟨_, rfl⟩
 have hl1 : p1.l = q.l := by rw [← hp1]
 have key : (p1.take 1 [wTask]).1.e = 0 := by
  rcases Decidable.em ((p1.take 1 [wTask]).1.e = 0) with h0 | h0
  ·exact h0
  ·refine absurd h ?_
   unfold PS.one
   simp only [hp1]
   exact fin_e _ (nums_e _ _ (take_e _ _ _ (nums_e _ _ (take_e _ _ _ h0))))
 have h2 := take_lt p1 1 [wTask] (by rw [hl1]; exact hl) key
 rw [hl1] at h2
 refine Nat.lt_of_le_of_lt ?_ h2
 unfold PS.one
 simp only [hp1]
 exact Nat.le_trans (fin_len _) (Nat.le_trans (nums_len2 _ _) (Nat.le_trans (take_len _ _ _) (Nat.le_trans (nums_len2 _ _) (take_len _ _ _))))
theorem first_hs (q : PS) : q.first.hs = q.hs ∧ q.first.ts = q.ts := by
 unfold PS.first
 simp only
 constructor
 ·rw [(fin_hs _).1]; show ((_ : PS).take 2 []).1.hs = _; rw [(take_hs _ _ _).1]; exact (take_hs _ _ _).1
 ·rw [(fin_hs _).2]; show ((_ : PS).take 2 []).1.ts = _; rw [(take_hs _ _ _).2.1]; exact (take_hs _ _ _).2.1
theorem first_len (q : PS) : q.first.l.length ≤ q.l.length := by
 unfold PS.first
 simp only
 refine Nat.le_trans (fin_len _) ?_
 show ((_ : PS).take 2 []).1.l.length ≤ _
 exact Nat.le_trans (take_len _ _ _) (take_len _ _ _)
theorem go_done (n : Nat) (q : PS) (h : ¬ (q.e = 0 ∧ q.now.f0 ≠ 4)) : PS.go n q = q := by
 cases n with
 | zero => rfl
 | succ n => rw [PS.go, if_neg h]
end Go.Proofs.YtadfcdpalcgghaaDoor.Q

-- Tokens that are as they must be, taken one by one (as in XLparsX, which stands over more texts: a seat has one of the two; no program in sight).
namespace Go.Proofs.YtadfcdpalcgghaaDoor.Q
open Go.RowKit Go.Proofs.YtadfcdpalcgghaaDoorW.PrintWords Go.Proofs.YtadfcdpalcgghaaDoorW.PrintLast Go.Proofs.YtadfcdpalcgghaaDoorW.PrintMore
attribute [local go_sem] max2_int min2_int max_two min_two max_three min_three max_four min_four   -- for this text's walks alone
set_option linter.unusedVariables false
set_option linter.unusedSimpArgs false

def fitT (q : Int × List ByteArray) (t : TOK) : Bool := (t.f0 == q.1) && (q.2.isEmpty || q.2.any (fun x => x.toList == t.f1.toList))
theorem fits_fitT {p : PS} {t : TOK} {r : List TOK} (he : p.e = 0) (hl : p.l = t :: r) (k : Int) (tx : List ByteArray) : p.fits k tx = fitT (k, tx) t := by
 have hn : p.now = t := by unfold PS.now; rw [hl]; rfl
 unfold PS.fits fitT
 rw [he, hn]; rfl
theorem take_yes {p : PS} {t : TOK} {r : List TOK} (he : p.e = 0) (hl : p.l = t :: r) {k : Int} {tx : List ByteArray} (hf : fitT (k, tx) t = true) : p.take k tx = ({ p with l := r }, t) := by
 have hn : p.now = t := by unfold PS.now; rw [hl]; rfl
 unfold PS.take
 rw [if_pos (by rw [fits_fitT he hl]; exact hf), hn, hl]; rfl
def taskOf (l : List TOK) : TK := ⟨(l.getD 1 z61).f1, (l.getD 2 z61).f2, (l.getD 3 z61).f2, (l.getD 4 z61).f2, (l.getD 6 z61).f2, (l.getD 7 z61).f2, (l.getD 8 z61).f2, (l.getD 9 z61).f2, (l.getD 10 z61).f2, modeOf (l.getD 5 z61).f1, (l.getD 11 z61).f2⟩
theorem nums_yes : ∀ (n : Nat) (p : PS) (xs r : List TOK), p.e = 0 → p.l = xs ++ r → xs.length = n → (∀ x ∈ xs, x.f0 = 2) → PS.nums n p = ({ p with l := r }, xs.map (fun x => x.f2))
 | 0, p, xs, r, he, hl, hn, _ => by
  have : xs = [] := List.eq_nil_of_length_eq_zero hn
  subst this
  rw [List.nil_append] at hl
  subst hl; rfl
 | n + 1, p, xs, r, he, hl, hn, hx => by
  obtain ⟨ys, y, rfl⟩ : ∃ ys y, xs = ys ++ [y] := by
   have : xs ≠ [] := by rintro rfl; simp at hn
   exact ⟨xs.dropLast, xs.getLast this, (List.dropLast_concat_getLast this).symm⟩
  have hl2 : p.l = ys ++ (y :: r) := by rw [hl]; simp
  have ih := nums_yes n p ys (y :: r) he hl2 (by simpa using hn) (fun x h => hx x (by simp [h]))
  have h2 := take_yes (p := { p with l := y :: r }) (t := y) (r := r) (k := 2) (tx := []) he rfl (by unfold fitT; simp [hx y (by simp)])
  show ((PS.nums n p).1.num.1, (PS.nums n p).2 ++ [(PS.nums n p).1.num.2]) = _
  unfold PS.num
  rw [ih]
  simp only [h2, List.map_append, List.map_cons, List.map_nil]
theorem fit2 {q : TOK} (h : fitT (2, []) q = true) : q.f0 = 2 := by unfold fitT at h; simpa using h
/-- A line of a task that is as it must be. -/
theorem one_yes (p : PS) (he : p.e = 0) (x0 x1 x2 x3 x4 x5 x6 x7 x8 x9 x10 x11 : TOK) (r : List TOK) (hl : p.l = x0 :: x1 :: x2 :: x3 :: x4 :: x5 :: x6 :: x7 :: x8 :: x9 :: x10 :: x11 :: r)
  (h0 : fitT (1, [wTask]) x0 = true) (h1 : fitT (1, []) x1 = true) (h2 : fitT (2, []) x2 = true) (h3 : fitT (2, []) x3 = true) (h4 : fitT (2, []) x4 = true) (h5 : fitT (1, [wRetry, wBlock, wBackup]) x5 = true)
  (h6 : fitT (2, []) x6 = true) (h7 : fitT (2, []) x7 = true) (h8 : fitT (2, []) x8 = true) (h9 : fitT (2, []) x9 = true) (h10 : fitT (2, []) x10 = true) (h11 : fitT (2, []) x11 = true) :
  p.one = { ({ p with hs := p.hs ++ [x0], l := r } : PS).fin with ts := ({ p with hs := p.hs ++ [x0], l := r } : PS).fin.ts ++ [taskOf p.l] } := by
 have hn : p.now = x0 := by unfold PS.now; rw [hl]; rfl
 have e1 := take_yes (p := { p with hs := p.hs ++ [x0] }) he hl h0
 have e2 := take_yes (p := { p with hs := p.hs ++ [x0], l := x1 :: x2 :: x3 :: x4 :: x5 :: x6 :: x7 :: x8 :: x9 :: x10 :: x11 :: r }) he rfl h1
 have e3 := nums_yes 3 { p with hs := p.hs ++ [x0], l := x2 :: x3 :: x4 :: x5 :: x6 :: x7 :: x8 :: x9 :: x10 :: x11 :: r } [x2, x3, x4] (x5 :: x6 :: x7 :: x8 :: x9 :: x10 :: x11 :: r) he rfl rfl (fun x hx => by simp at hx; rcases hx with rfl | rfl | rfl <;> exact fit2 (by assumption))
 have e4 := take_yes (p := { p with hs := p.hs ++ [x0], l := x5 :: x6 :: x7 :: x8 :: x9 :: x10 :: x11 :: r }) he rfl h5
 have e5 := nums_yes 6 { p with hs := p.hs ++ [x0], l := x6 :: x7 :: x8 :: x9 :: x10 :: x11 :: r } [x6, x7, x8, x9, x10, x11] r he rfl rfl (fun x hx => by simp at hx; rcases hx with rfl | rfl | rfl | rfl | rfl | rfl <;> exact fit2 (by assumption))
 unfold PS.one
 rw [hn]
 simp only [e1, e2, e3, e4, e5]
 rw [hl]
 rfl
theorem first_yes (p : PS) (he : p.e = 0) (x0 x1 : TOK) (r : List TOK) (hl : p.l = x0 :: x1 :: r) (h0 : fitT (1, [wBurst]) x0 = true) (h1 : fitT (2, []) x1 = true) :
  p.first = ({ p with l := r, b := x1.f2, bt := x1 } : PS).fin := by
 have e1 := take_yes (p := p) he hl h0
 have e2 := take_yes (p := { p with l := x1 :: r, bt := x1 }) he rfl h1
 have hn : ({ p with l := x1 :: r } : PS).now = x1 := rfl
 unfold PS.first PS.num
 simp only [e1, hn, e2]
end Go.Proofs.YtadfcdpalcgghaaDoor.Q

-- What a right set is, task by task (no program in sight).
namespace Go.Proofs.YtadfcdpalcgghaaDoor.Q
open Go.RowKit Go.Proofs.YtadfcdpalcgghaaDoorW.PrintWords Go.Proofs.YtadfcdpalcgghaaDoorW.PrintLast Go.Proofs.YtadfcdpalcgghaaDoorW.PrintMore
attribute [local go_sem] max2_int min2_int max_two min_two max_three min_three max_four min_four   -- for this text's walks alone
set_option linter.unusedVariables false
set_option linter.unusedSimpArgs false

theorem whyT_zero {t : TK} {a : List TK} : whyT t a = 0 ↔ tNamed t a = true ∧ tTimed t = true ∧ tModed t = true ∧ tFirm t = true ∧ tRanked t a = true := by
 unfold whyT
 cases tNamed t a <;> cases tTimed t <;> cases tModed t <;> cases tFirm t <;> cases tRanked t a <;> simp
theorem whyFrom_zero : ∀ (l a : List TK) (i : Int), (whyFrom l a i).1 = 0 ↔ ∀ j (h : j < l.length), whyT l[j] (a ++ l.take j) = 0
 | [], a, i => by simp [whyFrom]
 | t :: r, a, i => by
  rw [whyFrom]
  by_cases h : whyT t a = 0
  ·rw [if_pos h, whyFrom_zero r (a ++ [t]) (i + 1)]
   constructor
   ·intro hr j hj
    cases j with
    | zero => simpa using h
    | succ j => have := hr j (by simpa using hj); simpa using this
   ·intro hr j hj
    have := hr (j + 1) (by simpa using hj)
    simpa using this
  ·rw [if_neg h]
   constructor
   ·intro h0; exact absurd h0 h
   ·intro hr; have := hr 0 (by simp); exact absurd (by simpa using this) h
/-- A right set. -/
structure RightS (b : Int) (ts : List TK) : Prop where
 b0 : 1 ≤ b
 b1 : b ≤ 1000
 n0 : 1 ≤ ts.length
 n1 : ts.length ≤ 16
 each : ∀ j (h : j < ts.length), whyT ts[j] (ts.take j) = 0
theorem rightS_iff (b : Int) (ts : List TK) : (whyS b ts).1 = 0 ↔ RightS b ts := by
 unfold whyS
 constructor
 ·intro h
  split at h
  ·exact absurd h (by show ¬ (1 : Int) = 0; decide)
  ·rename_i h1
   split at h
   ·exact absurd h (by show ¬ (2 : Int) = 0; decide)
   ·rename_i h2
    unfold inB at h1 h2
    simp at h1 h2
    have := (whyFrom_zero ts [] 0).1 h
    exact ⟨h1.1, h1.2, by omega, by omega, fun j hj => by have := this j hj; simpa using this⟩
 ·intro h
  have h1 := h.b0; have h2 := h.b1; have h3 := h.n0; have h4 := h.n1
  rw [if_neg (by unfold inB; simp; omega), if_neg (by unfold inB; simp; omega)]
  exact (whyFrom_zero ts [] 0).2 (fun j hj => by have := h.each j hj; simpa using this)
/-- What is known of one task. -/
structure RightT (t : TK) : Prop where
 named : named t.f0 = true
 timed : 1 ≤ t.f1 ∧ t.f1 ≤ 1048576 ∧ 1 ≤ t.f2 ∧ t.f2 ≤ t.f1 ∧ 1 ≤ t.f3 ∧ t.f3 ≤ t.f2 ∧ 0 ≤ t.f6 ∧ t.f6 ≤ 1000
 modeA : 1 ≤ t.f9 ∧ t.f9 ≤ 3
 mode1 : t.f9 = 1 → 1 ≤ t.f5 ∧ t.f5 ≤ t.f3 ∧ t.f4 = 0
 mode2 : t.f9 ≠ 1 → 1 ≤ t.f4 ∧ t.f4 ≤ t.f2 ∧ t.f5 = 0
 firm : 1 ≤ t.f8 ∧ t.f8 ≤ 64 ∧ 1 ≤ t.f7 ∧ t.f7 ≤ t.f8
 prio : 0 ≤ t.f10 ∧ t.f10 ≤ 255
theorem rightT_iff {t : TK} {a : List TK} : whyT t a = 0 ↔ RightT t ∧ (∀ x ∈ a, x.f0 ≠ t.f0) ∧ (∀ x ∈ a, x.f10 ≠ t.f10) := by
 have hba : ∀ x y : ByteArray, (x.toList == y.toList) = decide (x = y) := by
  intro x y
  rw [Bool.eq_iff_iff, beq_iff_eq, decide_eq_true_iff, Lib.toList_data, Lib.toList_data]
  constructor
  ·intro h
   cases x; cases y
   simp only [ByteArray.mk.injEq]
   exact Array.ext' h
  ·rintro rfl; rfl
 rw [whyT_zero]
 unfold tNamed tTimed tModed tFirm tRanked inB
 simp only [hba, Bool.and_eq_true, Bool.not_eq_true', List.any_eq_false, decide_eq_true_eq, beq_iff_eq]
 constructor
 ·rintro ⟨⟨h1, h2⟩, ⟨⟨⟨h3, h4⟩, h5⟩, h6⟩, h7, ⟨h8, h9⟩, h10, h11⟩
  by_cases hm : t.f9 = 1
  ·rw [if_pos hm] at h7
   simp only [Bool.and_eq_true, decide_eq_true_eq, beq_iff_eq] at h7
   exact ⟨⟨h1, by omega, by omega, fun _ => by omega, fun h => absurd hm h, by omega, by omega⟩, h2, h11⟩
  ·rw [if_neg hm] at h7
   simp only [Bool.and_eq_true, decide_eq_true_eq, beq_iff_eq] at h7
   exact ⟨⟨h1, by omega, by omega, fun h => absurd h hm, fun _ => by omega, by omega, by omega⟩, h2, h11⟩
 ·rintro ⟨h, h2, h11⟩
  have g1 := h.timed; have g2 := h.modeA; have g3 := h.mode1; have g4 := h.mode2; have g5 := h.firm; have g6 := h.prio
  refine ⟨⟨h.named, h2⟩, by omega, ?_, by omega, by omega, h11⟩
  by_cases hm : t.f9 = 1
  ·have := g3 hm
   rw [if_pos hm]
   simp only [Bool.and_eq_true, decide_eq_true_eq, beq_iff_eq]; omega
  ·have := g4 hm
   rw [if_neg hm]
   simp only [Bool.and_eq_true, decide_eq_true_eq, beq_iff_eq]; omega
theorem RightS.task {b : Int} {ts : List TK} (h : RightS b ts) {t : TK} (ht : t ∈ ts) : RightT t := by
 obtain ⟨j, hj, rfl⟩ := List.mem_iff_getElem.1 ht
 exact (rightT_iff.1 (h.each j hj)).1
theorem RightS.apart {b : Int} {ts : List TK} (h : RightS b ts) (i j : Nat) (hi : i < ts.length) (hj : j < ts.length) (hij : i ≠ j) : ts[i].f0 ≠ ts[j].f0 ∧ ts[i].f10 ≠ ts[j].f10 := by
 have key : ∀ i j (hi : i < ts.length) (hj : j < ts.length), i < j → ts[i].f0 ≠ ts[j].f0 ∧ ts[i].f10 ≠ ts[j].f10 := by
  intro i j hi hj hij
  have h1 := (rightT_iff.1 (h.each j hj)).2
  have hm : ts[i] ∈ ts.take j := by
   rw [List.mem_take_iff_getElem]
   exact ⟨i, by omega, rfl⟩
  exact ⟨h1.1 _ hm, h1.2 _ hm⟩
 rcases Nat.lt_or_gt_of_ne hij with h1 | h1
 ·exact key i j hi hj h1
 ·have := key j i hj hi h1
  exact ⟨fun e => this.1 e.symm, fun e => this.2 e.symm⟩
end Go.Proofs.YtadfcdpalcgghaaDoor.Q

-- What an argument of a law is, as its row reads it: a set, a slice of numbers, of structs (no program in sight but its types).
namespace Go.Proofs.YtadfcdpalcgghaaDoor.Q
open Go.RowKit Go.Proofs.YtadfcdpalcgghaaDoorW.PrintWords Go.Proofs.YtadfcdpalcgghaaDoorW.PrintLast Go.Proofs.YtadfcdpalcgghaaDoorW.PrintMore
attribute [local go_sem] max2_int min2_int max_two min_two max_three min_three max_four min_four   -- for this text's walks alone
set_option linter.unusedVariables false
set_option linter.unusedSimpArgs false

set_option maxRecDepth 100000
section
open Go.ChangeShapes Go.WideShapes Go.Deep
variable {H : Type} {enc : TypeId × Value → H} {base : Nat} {spare : Nat → Bool} {held : Bool}
theorem pick_list {α : Type} (Q : Nat → α → Prop) : ∀ n : Nat, (∀ i, i < n → ∃ a, Q i a) → ∃ l : List α, l.length = n ∧ ∀ i p, l[i]? = some p → Q i p
 | 0, _ => ⟨[], rfl, fun i p h => by simp at h⟩
 | n + 1, h => by
  obtain ⟨l, hl, hq⟩ := pick_list Q n (fun i hi => h i (by omega))
  obtain ⟨a, ha⟩ := h n (by omega)
  refine ⟨l ++ [a], by simp [hl], fun i p hp => ?_⟩
  by_cases hi : i < n
  ·rw [List.getElem?_append_left (by omega)] at hp; exact hq i p hp
  ·rw [List.getElem?_append_right (by omega)] at hp
   have : i - l.length = 0 := by
    rcases Nat.eq_zero_or_pos (i - l.length) with h | h
    ·exact h
    ·rw [List.getElem?_eq_none (by simp; omega)] at hp; cases hp
   rw [this] at hp
   simp at hp
   have : i = n := by omega
   subst this; subst hp; exact ha
theorem op_slice {P : Program} {w : World} {α : Type} (d : Kd α) (ok : α → Prop) {t e : TypeId} (ht : P.underlying t = some (.slice e)) (hc : P.cellsOf e = d.sz) (ho : ∀ {fuel : Nat} {cs : List Value} {x : DataW H × List MemPlace}, DataW.trod enc P w base spare held fuel e cs = some x → ∃ a, d.K w a cs ∧ ok a)
  {fuel : Nat} {cs : List Value} {x : DataW H × List MemPlace} (h : DataW.trod enc P w base spare held fuel t cs = some x) : ∃ (A : Option Addr) (c : Nat) (l : List α), cs = [.slice A l.length c] ∧ d.C w A l.length l ∧ l.length ≤ c ∧ (∀ a ∈ l, ok a) ∧ c ≤ maxLen := by
 rcases open_slice ht h with ⟨h0, -⟩ | ⟨a, len, cap, m, n, D, Pl, hcs, hb, hl, hm, hmm, -, hi⟩
 ·exact ⟨none, 0, [], h0, Kd.C_nil _ _, Nat.le_refl _, fun a h => (by cases h), Nat.zero_le _⟩
 ·have hlm : len ≤ m := by rw [hmm]; split <;> omega
  have hml : maxLen = 9223372036854775807 := rfl
  obtain ⟨l, hll, hq⟩ := pick_list (fun i (p : α) => ok p ∧ ∃ c : List Value, c.length = d.sz ∧ d.K w p c ∧ ∀ j u, c[j]? = some u → w.cell? (a.add (i * d.sz + j)) = some u) len (fun i hin => by
   obtain ⟨cs', hcc, htt⟩ := hi i (by omega)
   obtain ⟨p, hK, hok⟩ := ho htt
   rw [hc] at hcc
   obtain ⟨_, hcl, hat⟩ := World.cells?_some hcc
   refine ⟨p, hok, cs', hcl, hK, fun j u hu => ?_⟩
   have hj : j < d.sz := by rw [← hcl]; exact (List.getElem?_eq_some_iff.1 hu).1
   rw [← Go.Deep.add_add, hat j hj]; exact hu)
  subst hll
  refine ⟨some a, cap, l, hcs, ⟨rfl, by omega, fun _ => ⟨a, rfl, fun j p hp => (hq j p hp).2⟩⟩, hl, fun p hp => ?_, hm⟩
  obtain ⟨j, hj, rfl⟩ := List.mem_iff_getElem.1 hp
  exact (hq j _ (List.getElem?_eq_getElem hj)).1
def okTask (t : S26) : Prop := (Lit.int .i64 t.f1).wf = true ∧ (Lit.int .i64 t.f2).wf = true ∧ (Lit.int .i64 t.f3).wf = true ∧ (Lit.int .i64 t.f4).wf = true ∧ (Lit.int .i64 t.f5).wf = true ∧ (Lit.int .i64 t.f6).wf = true ∧ (Lit.int .i64 t.f7).wf = true ∧ (Lit.int .i64 t.f8).wf = true ∧ (Lit.int .i64 t.f9).wf = true ∧ (Lit.int .i64 t.f10).wf = true ∧ t.f0.size ≤ maxLen
theorem op_Task {w : World} {fuel : Nat} {cs : List Value} {x : DataW H × List MemPlace} (h : DataW.trod enc Tryd.prog w base spare held fuel 26 cs = some x) : ∃ t : S26, (k26).K w t cs ∧ okTask t := by
 obtain ⟨xs, n, -, -, hlen, hxl, hf⟩ := DataW.trod_struct Tryd.underlying26 h
 rw [show Tryd.prog.cellsOf 26 = 11 by kernel_rfl] at hlen
 have hx : xs.length = 11 := hxl
 obtain ⟨c0, c1, c2, c3, c4, c5, c6, c7, c8, c9, c10, rfl⟩ : ∃ c0 c1 c2 c3 c4 c5 c6 c7 c8 c9 c10, cs = [c0, c1, c2, c3, c4, c5, c6, c7, c8, c9, c10] := by
  match cs, hlen with
  | [c0, c1, c2, c3, c4, c5, c6, c7, c8, c9, c10], _ => exact ⟨_, _, _, _, _, _, _, _, _, _, _, rfl⟩
 have g0 := hf 0 _ rfl
 rw [List.getElem?_eq_getElem (by omega)] at g0
 obtain ⟨v0, e0, -, w0⟩ := DataW.trod_string Tryd.underlying9 g0
 have e0 : [c0] = [.string v0] := e0
 cases e0
 have g1 := hf 1 _ rfl
 rw [List.getElem?_eq_getElem (by omega)] at g1
 obtain ⟨v1, e1, -, w1⟩ := DataW.trod_int Tryd.underlying3 g1
 have e1 : [c1] = [.int .i64 v1] := e1
 cases e1
 have g2 := hf 2 _ rfl
 rw [List.getElem?_eq_getElem (by omega)] at g2
 obtain ⟨v2, e2, -, w2⟩ := DataW.trod_int Tryd.underlying3 g2
 have e2 : [c2] = [.int .i64 v2] := e2
 cases e2
 have g3 := hf 3 _ rfl
 rw [List.getElem?_eq_getElem (by omega)] at g3
 obtain ⟨v3, e3, -, w3⟩ := DataW.trod_int Tryd.underlying3 g3
 have e3 : [c3] = [.int .i64 v3] := e3
 cases e3
 have g4 := hf 4 _ rfl
 rw [List.getElem?_eq_getElem (by omega)] at g4
 obtain ⟨v4, e4, -, w4⟩ := DataW.trod_int Tryd.underlying3 g4
 have e4 : [c4] = [.int .i64 v4] := e4
 cases e4
 have g5 := hf 5 _ rfl
 rw [List.getElem?_eq_getElem (by omega)] at g5
 obtain ⟨v5, e5, -, w5⟩ := DataW.trod_int Tryd.underlying3 g5
 have e5 : [c5] = [.int .i64 v5] := e5
 cases e5
 have g6 := hf 6 _ rfl
 rw [List.getElem?_eq_getElem (by omega)] at g6
 obtain ⟨v6, e6, -, w6⟩ := DataW.trod_int Tryd.underlying3 g6
 have e6 : [c6] = [.int .i64 v6] := e6
 cases e6
 have g7 := hf 7 _ rfl
 rw [List.getElem?_eq_getElem (by omega)] at g7
 obtain ⟨v7, e7, -, w7⟩ := DataW.trod_int Tryd.underlying3 g7
 have e7 : [c7] = [.int .i64 v7] := e7
 cases e7
 have g8 := hf 8 _ rfl
 rw [List.getElem?_eq_getElem (by omega)] at g8
 obtain ⟨v8, e8, -, w8⟩ := DataW.trod_int Tryd.underlying3 g8
 have e8 : [c8] = [.int .i64 v8] := e8
 cases e8
 have g9 := hf 9 _ rfl
 rw [List.getElem?_eq_getElem (by omega)] at g9
 obtain ⟨v9, e9, -, w9⟩ := DataW.trod_int Tryd.underlying3 g9
 have e9 : [c9] = [.int .i64 v9] := e9
 cases e9
 have g10 := hf 10 _ rfl
 rw [List.getElem?_eq_getElem (by omega)] at g10
 obtain ⟨v10, e10, -, w10⟩ := DataW.trod_int Tryd.underlying3 g10
 have e10 : [c10] = [.int .i64 v10] := e10
 cases e10
 exact ⟨⟨v0, v1, v2, v3, v4, v5, v6, v7, v8, v9, v10⟩, k26_mk w _, w1, w2, w3, w4, w5, w6, w7, w8, w9, w10, w0⟩
/-- A set by value. -/
theorem op_set {w : World} {r : Reach} {b0 : Nat} {v : Value} {d : DataW H} {ps : List MemPlace} (hv : Value.okWide Tryd.prog w r b0 24 v) (h : DataW.Trod enc Tryd.prog w base spare held 24 v d ps) :
  ∃ (b : Int) (A : Option Addr) (c : Nat) (ts : List TK), v = .agg #[.int .i64 b, .slice A ts.length c] ∧ Kd.C k26 w A ts.length ts ∧ ts.length ≤ c ∧ (∀ t ∈ ts, okTask t) ∧ (Lit.int .i64 b).wf = true := by
 obtain ⟨cs, rfl, hsz⟩ := okWide_struct Tryd.underlying24 hv
 obtain ⟨fuel, h⟩ := h
 obtain ⟨xs, n, -, -, hlen, hxl, hf⟩ := DataW.trod_struct Tryd.underlying24 h
 have hx : xs.length = 2 := hxl
 have hc2 : cs.size = 2 := hsz.trans (by kernel_rfl)
 obtain ⟨c0, c1, rfl⟩ : ∃ c0 c1, cs = #[c0, c1] := by
  obtain ⟨l⟩ := cs
  match l, hc2 with
  | [c0, c1], _ => exact ⟨_, _, rfl⟩
 have g0 := hf 0 _ rfl
 rw [List.getElem?_eq_getElem (by omega)] at g0
 obtain ⟨b, e0, -, w0⟩ := DataW.trod_int Tryd.underlying3 g0
 have e0 : [c0] = [.int .i64 b] := e0
 cases e0
 have g1 := hf 1 _ rfl
 rw [List.getElem?_eq_getElem (by omega)] at g1
 obtain ⟨A, c, ts, e1, hC, hc, hok, -⟩ := op_slice k26 okTask Tryd.underlying22 (by kernel_rfl) op_Task g1
 have e1 : [c1] = [.slice A ts.length c] := e1
 cases e1
 exact ⟨b, A, c, ts, rfl, hC, hc, hok, w0⟩
end
end Go.Proofs.YtadfcdpalcgghaaDoor.Q

-- Written for this claim by the session's own driver (wip/qprint.py) over the kit's printer, out of the translation. Not trusted: Lean checks it.
namespace Go.Proofs.YtadfcdpalcgghaaDoor.Q
open Go.RowKit Go.Proofs.YtadfcdpalcgghaaDoorW.PrintWords Go.Proofs.YtadfcdpalcgghaaDoorW.PrintLast Go.Proofs.YtadfcdpalcgghaaDoorW.PrintMore
attribute [local go_sem] max2_int min2_int max_two min_two max_three min_three max_four min_four   -- for this text's walks alone
set_option linter.unusedVariables false
set_option linter.unusedSimpArgs false

theorem eqA26 (d : Nat) (w : World) (x0 y0 : ByteArray) (x1 y1 : Int) (x2 y2 : Int) (x3 y3 : Int) (x4 y4 : Int) (x5 y5 : Int) (x6 y6 : Int) (x7 y7 : Int) (x8 y8 : Int) (x9 y9 : Int) (x10 y10 : Int) :
  (Op.equalIn (d + 2) 26 (.agg #[.string x0, .int .i64 x1, .int .i64 x2, .int .i64 x3, .int .i64 x4, .int .i64 x5, .int .i64 x6, .int .i64 x7, .int .i64 x8, .int .i64 x9, .int .i64 x10]) (.agg #[.string y0, .int .i64 y1, .int .i64 y2, .int .i64 y3, .int .i64 y4, .int .i64 y5, .int .i64 y6, .int .i64 y7, .int .i64 y8, .int .i64 y9, .int .i64 y10])).run Tryd.prog w = .ok (x0.toList == y0.toList && (x1 == y1 && (x2 == y2 && (x3 == y3 && (x4 == y4 && (x5 == y5 && (x6 == y6 && (x7 == y7 && (x8 == y8 && (x9 == y9 && (x10 == y10))))))))))) w := by
 refine eqA_of Tryd.underlying26 (by kernel_rfl) ?_
 refine eqf_cons (by rfl) (by go_simp; rfl) (by go_simp; rfl) (by go_simp) ?_
 refine eqf_cons (by rfl) (by go_simp; rfl) (by go_simp; rfl) (by go_simp) ?_
 refine eqf_cons (by rfl) (by go_simp; rfl) (by go_simp; rfl) (by go_simp) ?_
 refine eqf_cons (by rfl) (by go_simp; rfl) (by go_simp; rfl) (by go_simp) ?_
 refine eqf_cons (by rfl) (by go_simp; rfl) (by go_simp; rfl) (by go_simp) ?_
 refine eqf_cons (by rfl) (by go_simp; rfl) (by go_simp; rfl) (by go_simp) ?_
 refine eqf_cons (by rfl) (by go_simp; rfl) (by go_simp; rfl) (by go_simp) ?_
 refine eqf_cons (by rfl) (by go_simp; rfl) (by go_simp; rfl) (by go_simp) ?_
 refine eqf_cons (by rfl) (by go_simp; rfl) (by go_simp; rfl) (by go_simp) ?_
 refine eqf_cons (by rfl) (by go_simp; rfl) (by go_simp; rfl) (by go_simp) ?_
 exact eqf_last (by rfl) (by go_simp; rfl) (by go_simp; rfl) (by go_simp)
end Go.Proofs.YtadfcdpalcgghaaDoor.Q

-- Written for this claim by the session's own driver (wip/qprint.py) over the kit's printer, out of the translation. Not trusted: Lean checks it.
namespace Go.Proofs.YtadfcdpalcgghaaDoor.Q
open Go.RowKit Go.Proofs.YtadfcdpalcgghaaDoorW.PrintWords Go.Proofs.YtadfcdpalcgghaaDoorW.PrintLast Go.Proofs.YtadfcdpalcgghaaDoorW.PrintMore
attribute [local go_sem] max2_int min2_int max_two min_two max_three min_three max_four min_four   -- for this text's walks alone
set_option linter.unusedVariables false
set_option linter.unusedSimpArgs false

/-! ### pendulumref07_Mode: function 13 -/
def pendulumref07_Mode.f (a0 : Int) : Option (ByteArray) := (some (([(⟨#[110, 111, 110, 101]⟩ : ByteArray), (⟨#[114, 101, 116, 114, 121]⟩ : ByteArray), (⟨#[98, 108, 111, 99, 107]⟩ : ByteArray), (⟨#[98, 97, 99, 107, 117, 112]⟩ : ByteArray)] : List ByteArray) : List ByteArray)).bind fun y118 => (if a0 < 0 then (some (⟨#[110, 111, 110, 101]⟩ : ByteArray)) else (if a0 > 3 then (some (⟨#[110, 111, 110, 101]⟩ : ByteArray)) else (if 0 ≤ a0 then (if a0 < (y118.length : Int) then (some (rdOf ByteArray.empty y118 a0)) else (none)) else (none))))
set_option maxHeartbeats 8000000 in
set_option maxRecDepth 100000 in
theorem pendulumref07_Mode.calls (a0 : Int) (r : ByteArray) (w : World) (h : pendulumref07_Mode.f a0 = some r) :
  Calls Tryd.prog 13 #[.int .i64 a0] w fun e w' => e = .returned (.string r) ∧ Below w.heap.size w w' := by
 have HB := Aside0.mk (Below.refl w.heap.size w)
 have H : ((some (([(⟨#[110, 111, 110, 101]⟩ : ByteArray), (⟨#[114, 101, 116, 114, 121]⟩ : ByteArray), (⟨#[98, 108, 111, 99, 107]⟩ : ByteArray), (⟨#[98, 97, 99, 107, 117, 112]⟩ : ByteArray)] : List ByteArray) : List ByteArray)).bind fun y118 => (if a0 < 0 then (some (⟨#[110, 111, 110, 101]⟩ : ByteArray)) else (if a0 > 3 then (some (⟨#[110, 111, 110, 101]⟩ : ByteArray)) else (if 0 ≤ a0 then (if a0 < (y118.length : Int) then (some (rdOf ByteArray.empty y118 a0)) else (none)) else (none))))) = some r := h
 clear h
 obtain ⟨y118, hy118⟩ : ∃ y_ : List ByteArray, y_ = (([(⟨#[110, 111, 110, 101]⟩ : ByteArray), (⟨#[114, 101, 116, 114, 121]⟩ : ByteArray), (⟨#[98, 108, 111, 99, 107]⟩ : ByteArray), (⟨#[98, 97, 99, 107, 117, 112]⟩ : ByteArray)] : List ByteArray)) := ⟨_, rfl⟩
 replace H : (if a0 < 0 then (some (⟨#[110, 111, 110, 101]⟩ : ByteArray)) else (if a0 > 3 then (some (⟨#[110, 111, 110, 101]⟩ : ByteArray)) else (if 0 ≤ a0 then (if a0 < (y118.length : Int) then (some (rdOf ByteArray.empty y118 a0)) else (none)) else (none)))) = some r := by first | (rw [hy118]; with_reducible exact H) | (have H2_ := (Option.bind_some _ _).symm.trans H; rw [hy118]; with_reducible exact H2_) | (have H2_ := (Option.bind_some _ _).symm.trans H; with_reducible exact H2_) | with_reducible exact H | (rw [hy118]; exact H) | exact H
 have Ny118 := Aside0.mk hy118
 clear hy118
 by_cases c2 : a0 < 0
 ·rw [if_pos c2] at H
  have c2b0 : decide (a0 < 0) = true := decide_eq_true c2
  clear c2
  obtain rfl := Option.some.inj H
  go_enter Tryd.func13, Tryd.ntmps13
  go_wp2_with (first | ((with_reducible refine gate_dst (N := 4) rfl ?_); refine Kd.R_lit Kd.string _ 9 ?hg (N := 4) ?hd (xs := ([(⟨#[110, 111, 110, 101]⟩ : ByteArray), (⟨#[114, 101, 116, 114, 121]⟩ : ByteArray), (⟨#[98, 108, 111, 99, 107]⟩ : ByteArray), (⟨#[98, 97, 99, 107, 117, 112]⟩ : ByteArray)] : List ByteArray)) (inner := [.string (⟨#[110, 111, 110, 101]⟩ : ByteArray), .string (⟨#[114, 101, 116, 114, 121]⟩ : ByteArray), .string (⟨#[98, 108, 111, 99, 107]⟩ : ByteArray), .string (⟨#[98, 97, 99, 107, 117, 112]⟩ : ByteArray)]) (ok := fun _ => True) (okp := fun _ => True) ?hr ?hp (fun _ hk => hk) trivial (Below.refl _ _) (Nat.le_refl _) (by simp) ?_; (case hd => rfl); (case hg => rfl); (case hr => first | (go_simp; done) | (go_simp; rfl)); (case hp => exact (Reps.one (show Kd.M Kd.string _ _ _ (⟨#[110, 111, 110, 101]⟩ : ByteArray) [.string (⟨#[110, 111, 110, 101]⟩ : ByteArray)] from rfl) (Reps.one (show Kd.M Kd.string _ _ _ (⟨#[114, 101, 116, 114, 121]⟩ : ByteArray) [.string (⟨#[114, 101, 116, 114, 121]⟩ : ByteArray)] from rfl) (Reps.one (show Kd.M Kd.string _ _ _ (⟨#[98, 108, 111, 99, 107]⟩ : ByteArray) [.string (⟨#[98, 108, 111, 99, 107]⟩ : ByteArray)] from rfl) (Reps.one (show Kd.M Kd.string _ _ _ (⟨#[98, 97, 99, 107, 117, 112]⟩ : ByteArray) [.string (⟨#[98, 97, 99, 107, 117, 112]⟩ : ByteArray)] from rfl) (Reps.none _ _)))))); intro v119 w3 ho4 hb hg_ hnew_; clear hg_ hnew_; (first | rw [← Ny118.out] at ho4 | (simp only [Int.reduceToNat] at ho4; rw [← Ny118.out] at ho4)); have n0_ := Aside0.mk (Kd.R_lower ho4 (below_size (by repeat (first | (with_reducible first | exact HB.out | apply below_alloc | apply pw_below_drewN | apply below_drew1) | exact HB.out)))); have n1_ := Aside0.mk (below_step (by repeat (first | (with_reducible first | exact HB.out | apply below_alloc | apply pw_below_drewN | apply below_drew1) | exact HB.out)) hb); clear HB; have HO120 := n0_; have HB := n1_; clear n0_ n1_; clear hb ho4))
  go_ret
  exact ⟨by first | rfl | (simp [errW_none, errW_some] <;> rfl) | (simp [*, errW_none, errW_some] <;> rfl), by repeat (first | (with_reducible first | exact HB.out | apply below_alloc | apply pw_below_drewN | apply below_drew1) | exact HB.out)⟩
 ·rw [if_neg c2] at H
  have c2b0 : decide (a0 < 0) = false := decide_eq_false c2
  clear c2
  by_cases c5 : a0 > 3
  ·rw [if_pos c5] at H
   have c5b0 : decide (3 < a0) = true := decide_eq_true c5
   clear c5
   obtain rfl := Option.some.inj H
   go_enter Tryd.func13, Tryd.ntmps13
   go_wp2_with (first | ((with_reducible refine gate_dst (N := 4) rfl ?_); refine Kd.R_lit Kd.string _ 9 ?hg (N := 4) ?hd (xs := ([(⟨#[110, 111, 110, 101]⟩ : ByteArray), (⟨#[114, 101, 116, 114, 121]⟩ : ByteArray), (⟨#[98, 108, 111, 99, 107]⟩ : ByteArray), (⟨#[98, 97, 99, 107, 117, 112]⟩ : ByteArray)] : List ByteArray)) (inner := [.string (⟨#[110, 111, 110, 101]⟩ : ByteArray), .string (⟨#[114, 101, 116, 114, 121]⟩ : ByteArray), .string (⟨#[98, 108, 111, 99, 107]⟩ : ByteArray), .string (⟨#[98, 97, 99, 107, 117, 112]⟩ : ByteArray)]) (ok := fun _ => True) (okp := fun _ => True) ?hr ?hp (fun _ hk => hk) trivial (Below.refl _ _) (Nat.le_refl _) (by simp) ?_; (case hd => rfl); (case hg => rfl); (case hr => first | (go_simp; done) | (go_simp; rfl)); (case hp => exact (Reps.one (show Kd.M Kd.string _ _ _ (⟨#[110, 111, 110, 101]⟩ : ByteArray) [.string (⟨#[110, 111, 110, 101]⟩ : ByteArray)] from rfl) (Reps.one (show Kd.M Kd.string _ _ _ (⟨#[114, 101, 116, 114, 121]⟩ : ByteArray) [.string (⟨#[114, 101, 116, 114, 121]⟩ : ByteArray)] from rfl) (Reps.one (show Kd.M Kd.string _ _ _ (⟨#[98, 108, 111, 99, 107]⟩ : ByteArray) [.string (⟨#[98, 108, 111, 99, 107]⟩ : ByteArray)] from rfl) (Reps.one (show Kd.M Kd.string _ _ _ (⟨#[98, 97, 99, 107, 117, 112]⟩ : ByteArray) [.string (⟨#[98, 97, 99, 107, 117, 112]⟩ : ByteArray)] from rfl) (Reps.none _ _)))))); intro v119 w6 ho7 hb hg_ hnew_; clear hg_ hnew_; (first | rw [← Ny118.out] at ho7 | (simp only [Int.reduceToNat] at ho7; rw [← Ny118.out] at ho7)); have n0_ := Aside0.mk (Kd.R_lower ho7 (below_size (by repeat (first | (with_reducible first | exact HB.out | apply below_alloc | apply pw_below_drewN | apply below_drew1) | exact HB.out)))); have n1_ := Aside0.mk (below_step (by repeat (first | (with_reducible first | exact HB.out | apply below_alloc | apply pw_below_drewN | apply below_drew1) | exact HB.out)) hb); clear HB; have HO120 := n0_; have HB := n1_; clear n0_ n1_; clear hb ho7))
   go_ret
   exact ⟨by first | rfl | (simp [errW_none, errW_some] <;> rfl) | (simp [*, errW_none, errW_some] <;> rfl), by repeat (first | (with_reducible first | exact HB.out | apply below_alloc | apply pw_below_drewN | apply below_drew1) | exact HB.out)⟩
  ·rw [if_neg c5] at H
   have c5b0 : decide (3 < a0) = false := decide_eq_false c5
   clear c5
   by_cases c8 : 0 ≤ a0
   ·rw [if_pos c8] at H
    have c8b0 : decide (0 ≤ a0) = true := decide_eq_true c8
    clear c8
    by_cases c9 : a0 < (y118.length : Int)
    ·rw [if_pos c9] at H
     have c9b0 : decide (a0 < (y118.length : Int)) = true := decide_eq_true c9
     clear c9
     obtain rfl := Option.some.inj H
     go_enter Tryd.func13, Tryd.ntmps13
     go_wp2_with (first | ((with_reducible refine gate_dst (N := 4) rfl ?_); refine Kd.R_lit Kd.string _ 9 ?hg (N := 4) ?hd (xs := ([(⟨#[110, 111, 110, 101]⟩ : ByteArray), (⟨#[114, 101, 116, 114, 121]⟩ : ByteArray), (⟨#[98, 108, 111, 99, 107]⟩ : ByteArray), (⟨#[98, 97, 99, 107, 117, 112]⟩ : ByteArray)] : List ByteArray)) (inner := [.string (⟨#[110, 111, 110, 101]⟩ : ByteArray), .string (⟨#[114, 101, 116, 114, 121]⟩ : ByteArray), .string (⟨#[98, 108, 111, 99, 107]⟩ : ByteArray), .string (⟨#[98, 97, 99, 107, 117, 112]⟩ : ByteArray)]) (ok := fun _ => True) (okp := fun _ => True) ?hr ?hp (fun _ hk => hk) trivial (Below.refl _ _) (Nat.le_refl _) (by simp) ?_; (case hd => rfl); (case hg => rfl); (case hr => first | (go_simp; done) | (go_simp; rfl)); (case hp => exact (Reps.one (show Kd.M Kd.string _ _ _ (⟨#[110, 111, 110, 101]⟩ : ByteArray) [.string (⟨#[110, 111, 110, 101]⟩ : ByteArray)] from rfl) (Reps.one (show Kd.M Kd.string _ _ _ (⟨#[114, 101, 116, 114, 121]⟩ : ByteArray) [.string (⟨#[114, 101, 116, 114, 121]⟩ : ByteArray)] from rfl) (Reps.one (show Kd.M Kd.string _ _ _ (⟨#[98, 108, 111, 99, 107]⟩ : ByteArray) [.string (⟨#[98, 108, 111, 99, 107]⟩ : ByteArray)] from rfl) (Reps.one (show Kd.M Kd.string _ _ _ (⟨#[98, 97, 99, 107, 117, 112]⟩ : ByteArray) [.string (⟨#[98, 97, 99, 107, 117, 112]⟩ : ByteArray)] from rfl) (Reps.none _ _)))))); intro v119 w10 ho11 hb hg_ hnew_; clear hg_ hnew_; (first | rw [← Ny118.out] at ho11 | (simp only [Int.reduceToNat] at ho11; rw [← Ny118.out] at ho11)); have n0_ := Aside0.mk (Kd.R_lower ho11 (below_size (by repeat (first | (with_reducible first | exact HB.out | apply below_alloc | apply pw_below_drewN | apply below_drew1) | exact HB.out)))); have n1_ := Aside0.mk (below_step (by repeat (first | (with_reducible first | exact HB.out | apply below_alloc | apply pw_below_drewN | apply below_drew1) | exact HB.out)) hb); clear HB; have HO120 := n0_; have HB := n1_; clear n0_ n1_; clear hb ho11; obtain ⟨Ao12, co12, eo12⟩ := Kd.R_slice HO120.out; subst eo12; have p121 : 0 ≤ (a0 : Int) := of_decide_eq_true (by first | (with_reducible assumption) | assumption); have q121 : a0 < (y118.length : Int) := of_decide_eq_true (by first | (with_reducible assumption) | assumption); obtain ⟨ad121, e121, hx121_0⟩ := Kd.at_string (Kd.R_reads' HO120.out).2.2 a0 p121 q121; cases e121; replace p121 := eq_true p121; replace q121 := eq_true q121))
     go_ret
     exact ⟨by first | rfl | (simp [errW_none, errW_some] <;> rfl) | (simp [*, errW_none, errW_some] <;> rfl), by repeat (first | (with_reducible first | exact HB.out | apply below_alloc | apply pw_below_drewN | apply below_drew1) | exact HB.out)⟩
    ·rw [if_neg c9] at H
     exact absurd H (by simp)
   ·rw [if_neg c8] at H
    exact absurd H (by simp)

/-! ### pendulumref07_digits: function 34 -/
def pendulumref07_digits.f : Nat → Int → Option (ByteArray)
 | 0, _ => none
 | k + 1, a0 => if a0 < 10 then (some (strOfNums (([(IntKind.u64.wrap (48 + a0)) % 256] : List Int)))) else ((pendulumref07_digits.f k (IntKind.u64.wrap (Int.tdiv a0 10))).bind fun t125 => ((pendulumref07_digits.f k (Int.tmod a0 10)).bind fun t126 => (if t125.size + t126.size ≤ 9223372036854775807 then (some (t125 ++ t126)) else (none))))
theorem pendulumref07_digits.mono_l : ∀ k, (∀ y0, LeO (pendulumref07_digits.f k y0) (pendulumref07_digits.f (k + 1) y0))
 | 0 => fun _ r h => by simp [pendulumref07_digits.f] at h
 | k + 1 => by
  have ih0 := pendulumref07_digits.mono_l k
  ·intro y0
   unfold pendulumref07_digits.f
   repeat' first
   | (with_reducible exact ih0 _)
   | (with_reducible exact LeO.refl _)
   | (with_reducible exact LeO.none _)
   | (with_reducible refine LeO.ite ?_ ?_)
   | (with_reducible refine LeO.bind ?_ (fun _ => ?_))
   | exact ih0 _
   | exact LeO.none _
   | refine LeO.ite ?_ ?_
   | refine LeO.bind ?_ (fun _ => ?_)
theorem pendulumref07_digits.mono : ∀ a0 k, LeO (pendulumref07_digits.f k a0) (pendulumref07_digits.f (k + 1) a0) := by
 intro a0 k
 have ih0 := pendulumref07_digits.mono_l k
 exact ih0 a0
set_option maxHeartbeats 8000000 in
set_option maxRecDepth 100000 in
theorem pendulumref07_digits.calls (k : Nat) : ∀ (a0 : Int) (r : ByteArray) (w : World) (h : pendulumref07_digits.f k a0 = some r),
  Calls Tryd.prog 34 #[.int .u64 a0] w fun e w' => e = .returned (.string r) ∧ Below w.heap.size w w' := by
 induction k using Nat.strongRecOn with
 | _ k ih =>
 intro a0 r w h
 cases k with
 | zero => exact absurd h (by simp [pendulumref07_digits.f])
 | succ k =>
 simp only [pendulumref07_digits.f] at h
 have HB := Aside0.mk (Below.refl w.heap.size w)
 have H : (if a0 < 10 then (some (strOfNums (([(IntKind.u64.wrap (48 + a0)) % 256] : List Int)))) else ((pendulumref07_digits.f k (IntKind.u64.wrap (Int.tdiv a0 10))).bind fun t125 => ((pendulumref07_digits.f k (Int.tmod a0 10)).bind fun t126 => (if t125.size + t126.size ≤ 9223372036854775807 then (some (t125 ++ t126)) else (none))))) = some r := h
 clear h
 by_cases c2 : a0 < 10
 ·rw [if_pos c2] at H
  have c2b0 : decide (a0 < 10) = true := decide_eq_true c2
  clear c2
  obtain ⟨y122, hy122⟩ : ∃ y_ : List Int, y_ = (([(IntKind.u64.wrap (48 + a0)) % 256] : List Int)) := ⟨_, rfl⟩
  replace H : (some (strOfNums y122)) = some r := by first | (rw [hy122]; with_reducible exact H) | (have H2_ := (Option.bind_some _ _).symm.trans H; rw [hy122]; with_reducible exact H2_) | (have H2_ := (Option.bind_some _ _).symm.trans H; with_reducible exact H2_) | with_reducible exact H | (rw [hy122]; exact H) | exact H
  have Ny122 := Aside0.mk hy122
  clear hy122
  obtain rfl := Option.some.inj H
  go_enter Tryd.func34, Tryd.ntmps34
  go_wp2_with (first | ((with_reducible refine gate_dst (N := 8) rfl ?_); refine Kd.R_lit (Kd.int .u8) _ 5 ?hg (N := 8) ?hd (xs := ([(IntKind.u64.wrap (48 + a0)) % 256] : List Int)) (inner := [.int .u8 ((IntKind.u64.wrap (48 + a0)) % 256)]) (ok := fun _ => True) (okp := fun _ => True) ?hr ?hp (fun _ hk => hk) trivial (Below.refl _ _) (Nat.le_refl _) (by simp) ?_; (case hd => rfl); (case hg => rfl); (case hr => first | (go_simp; done) | (go_simp; rfl)); (case hp => exact (Reps.one (show Kd.M (Kd.int .u8) _ _ _ ((IntKind.u64.wrap (48 + a0)) % 256) [.int .u8 ((IntKind.u64.wrap (48 + a0)) % 256)] from rfl) (Reps.none _ _))); intro v123 w3 ho4 hb hg_ hnew_; clear hg_ hnew_; (first | rw [← Ny122.out] at ho4 | (simp only [Int.reduceToNat] at ho4; rw [← Ny122.out] at ho4)); have n0_ := Aside0.mk (Kd.R_lower ho4 (below_size (by repeat (first | (with_reducible first | exact HB.out | apply below_alloc | apply pw_below_drewN | apply below_drew1) | exact HB.out)))); have n1_ := Aside0.mk (below_step (by repeat (first | (with_reducible first | exact HB.out | apply below_alloc | apply pw_below_drewN | apply below_drew1) | exact HB.out)) hb); clear HB; have HO124 := n0_; have HB := n1_; clear n0_ n1_; clear hb ho4; have hcv5 := own_string (P := Tryd.prog) Tryd.underlying41 Tryd.underlying5 Tryd.underlying9 (Kd.own_of_R HO124.out)))
  go_ret
  exact ⟨by first | rfl | (simp [errW_none, errW_some] <;> rfl) | (simp [*, errW_none, errW_some] <;> rfl), by repeat (first | (with_reducible first | exact HB.out | apply below_alloc | apply pw_below_drewN | apply below_drew1) | exact HB.out)⟩
 ·rw [if_neg c2] at H
  have c2b0 : decide (a0 < 10) = false := decide_eq_false c2
  clear c2
  replace H := Option.bind_eq_some_iff.mp H
  obtain ⟨t125, A60, H⟩ := H
  replace H : ((pendulumref07_digits.f k (Int.tmod a0 10)).bind fun t126 => (if t125.size + t126.size ≤ 9223372036854775807 then (some (t125 ++ t126)) else (none))) = some r := H
  have A6 := Aside0.mk A60
  clear A60
  replace H := Option.bind_eq_some_iff.mp H
  obtain ⟨t126, A70, H⟩ := H
  replace H : (if t125.size + t126.size ≤ 9223372036854775807 then (some (t125 ++ t126)) else (none)) = some r := H
  have A7 := Aside0.mk A70
  clear A70
  by_cases c8 : t125.size + t126.size ≤ 9223372036854775807
  ·rw [if_pos c8] at H
   have c8b0 := eq_true c8
   have c8b1 : decide (t125.size + t126.size ≤ 9223372036854775807) = true := decide_eq_true c8
   try have c8b2 : (9223372036854775807 < t125.size + t126.size) = False := eq_false (Nat.not_lt.2 c8)
   obtain rfl := Option.some.inj H
   go_enter Tryd.func34, Tryd.ntmps34
   go_wp2_with (first | ((with_reducible refine gate_callee (f := 34) rfl ?_); refine goesL_ (some 12) rfl rfl Tryd.func34 (by kernel_rfl) rfl #[.int .u64 (IntKind.u64.wrap (Int.tdiv a0 10))] rfl (by (try simp only [List.map_toArray, List.map_cons, List.map_nil]); first | done | rfl | (simp only [List.length_drop, List.length_take]; rfl)) ?_; (with_reducible refine (ih k (by omega) (IntKind.u64.wrap (Int.tdiv a0 10)) t125 _ A6.out).mono ?_); rintro e w9 ⟨rfl, hb⟩; refine ⟨_, rfl, ?_⟩; have n0_ := Aside0.mk (below_step (by repeat (first | (with_reducible first | exact HB.out | apply below_alloc | apply pw_below_drewN | apply below_drew1) | exact HB.out)) hb); clear HB; have HB := n0_; clear n0_; (try clear hb); (try clear hb2); (try clear hk); (try clear hi)) | ((with_reducible refine gate_callee (f := 34) rfl ?_); refine goesL_ (some 15) rfl rfl Tryd.func34 (by kernel_rfl) rfl #[.int .u64 (Int.tmod a0 10)] rfl (by (try simp only [List.map_toArray, List.map_cons, List.map_nil]); first | done | rfl | (simp only [List.length_drop, List.length_take]; rfl)) ?_; (with_reducible refine (ih k (by omega) (Int.tmod a0 10) t126 _ A7.out).mono ?_); rintro e w10 ⟨rfl, hb⟩; refine ⟨_, rfl, ?_⟩; have n0_ := Aside0.mk (below_step (by repeat (first | (with_reducible first | exact HB.out | apply below_alloc | apply pw_below_drewN | apply below_drew1) | exact HB.out)) hb); clear HB; have HB := n0_; clear n0_; (try clear hb); (try clear hb2); (try clear hk); (try clear hi)))
   go_ret
   exact ⟨by first | rfl | (simp [errW_none, errW_some] <;> rfl) | (simp [*, errW_none, errW_some] <;> rfl), by repeat (first | (with_reducible first | exact HB.out | apply below_alloc | apply pw_below_drewN | apply below_drew1) | exact HB.out)⟩
  ·rw [if_neg c8] at H
   exact absurd H (by simp)

/-! ### pendulumref07_Number: function 23 -/
def pendulumref07_Number.f (k : Nat) (a0 : Int) : Option (ByteArray) := if a0 < 0 then ((pendulumref07_digits.f k (IntKind.u64.wrap ((IntKind.u64.wrap (wrap64 (-(wrap64 (a0 + 1))))) + 1))).bind fun t127 => (if 1 + t127.size ≤ 9223372036854775807 then (some ((⟨#[45]⟩ : ByteArray) ++ t127)) else (none))) else ((pendulumref07_digits.f k (IntKind.u64.wrap (a0))).bind fun t128 => (some t128))
theorem pendulumref07_Number.mono : ∀ a0 k, LeO (pendulumref07_Number.f k a0) (pendulumref07_Number.f (k + 1) a0) := by
 intro a0 k
 unfold pendulumref07_Number.f
 repeat' first
   | (with_reducible exact pendulumref07_digits.mono _ _)
   | (with_reducible exact LeO.refl _)
   | (with_reducible exact LeO.none _)
   | (with_reducible refine LeO.ite ?_ ?_)
   | (with_reducible refine LeO.bind ?_ (fun _ => ?_))
   | exact pendulumref07_digits.mono _ _
   | exact LeO.none _
   | refine LeO.ite ?_ ?_
   | refine LeO.bind ?_ (fun _ => ?_)
set_option maxHeartbeats 8000000 in
set_option maxRecDepth 100000 in
theorem pendulumref07_Number.calls (k : Nat) (a0 : Int) (r : ByteArray) (w : World) (h : pendulumref07_Number.f k a0 = some r) :
  Calls Tryd.prog 23 #[.int .i64 a0] w fun e w' => e = .returned (.string r) ∧ Below w.heap.size w w' := by
 have HB := Aside0.mk (Below.refl w.heap.size w)
 have H : (if a0 < 0 then ((pendulumref07_digits.f k (IntKind.u64.wrap ((IntKind.u64.wrap (wrap64 (-(wrap64 (a0 + 1))))) + 1))).bind fun t127 => (if 1 + t127.size ≤ 9223372036854775807 then (some ((⟨#[45]⟩ : ByteArray) ++ t127)) else (none))) else ((pendulumref07_digits.f k (IntKind.u64.wrap (a0))).bind fun t128 => (some t128))) = some r := h
 clear h
 by_cases c2 : a0 < 0
 ·rw [if_pos c2] at H
  have c2b0 : decide (a0 < 0) = true := decide_eq_true c2
  clear c2
  replace H := Option.bind_eq_some_iff.mp H
  obtain ⟨t127, A30, H⟩ := H
  replace H : (if 1 + t127.size ≤ 9223372036854775807 then (some ((⟨#[45]⟩ : ByteArray) ++ t127)) else (none)) = some r := H
  have A3 := Aside0.mk A30
  clear A30
  by_cases c4 : 1 + t127.size ≤ 9223372036854775807
  ·rw [if_pos c4] at H
   have c4b0 := eq_true c4
   have c4b1 : decide (1 + t127.size ≤ 9223372036854775807) = true := decide_eq_true c4
   try have c4b2 : (9223372036854775807 < 1 + t127.size) = False := eq_false (Nat.not_lt.2 c4)
   obtain rfl := Option.some.inj H
   go_enter Tryd.func23, Tryd.ntmps23
   go_wp2_with (first | ((with_reducible refine gate_callee (f := 34) rfl ?_); refine goesL_ (some 10) rfl rfl Tryd.func34 (by kernel_rfl) rfl #[.int .u64 (IntKind.u64.wrap ((IntKind.u64.wrap (wrap64 (-(wrap64 (a0 + 1))))) + 1))] rfl (by (try simp only [List.map_toArray, List.map_cons, List.map_nil]); first | done | rfl | (simp only [List.length_drop, List.length_take]; rfl)) ?_; (with_reducible refine (pendulumref07_digits.calls k (IntKind.u64.wrap ((IntKind.u64.wrap (wrap64 (-(wrap64 (a0 + 1))))) + 1)) t127 _ A3.out).mono ?_); rintro e w5 ⟨rfl, hb⟩; refine ⟨_, rfl, ?_⟩; have n0_ := Aside0.mk (below_step (by repeat (first | (with_reducible first | exact HB.out | apply below_alloc | apply pw_below_drewN | apply below_drew1) | exact HB.out)) hb); clear HB; have HB := n0_; clear n0_; (try clear hb); (try clear hb2); (try clear hk); (try clear hi)))
   go_ret
   exact ⟨by first | rfl | (simp [errW_none, errW_some] <;> rfl) | (simp [*, errW_none, errW_some] <;> rfl), by repeat (first | (with_reducible first | exact HB.out | apply below_alloc | apply pw_below_drewN | apply below_drew1) | exact HB.out)⟩
  ·rw [if_neg c4] at H
   exact absurd H (by simp)
 ·rw [if_neg c2] at H
  have c2b0 : decide (a0 < 0) = false := decide_eq_false c2
  clear c2
  replace H := Option.bind_eq_some_iff.mp H
  obtain ⟨t128, A60, H⟩ := H
  replace H : (some t128) = some r := H
  have A6 := Aside0.mk A60
  clear A60
  obtain rfl := Option.some.inj H
  go_enter Tryd.func23, Tryd.ntmps23
  go_wp2_with (first | ((with_reducible refine gate_callee (f := 34) rfl ?_); refine goesL_ (some 14) rfl rfl Tryd.func34 (by kernel_rfl) rfl #[.int .u64 (IntKind.u64.wrap (a0))] rfl (by (try simp only [List.map_toArray, List.map_cons, List.map_nil]); first | done | rfl | (simp only [List.length_drop, List.length_take]; rfl)) ?_; (with_reducible refine (pendulumref07_digits.calls k (IntKind.u64.wrap (a0)) t128 _ A6.out).mono ?_); rintro e w7 ⟨rfl, hb⟩; refine ⟨_, rfl, ?_⟩; have n0_ := Aside0.mk (below_step (by repeat (first | (with_reducible first | exact HB.out | apply below_alloc | apply pw_below_drewN | apply below_drew1) | exact HB.out)) hb); clear HB; have HB := n0_; clear n0_; (try clear hb); (try clear hb2); (try clear hk); (try clear hi)))
  go_ret
  exact ⟨by first | rfl | (simp [errW_none, errW_some] <;> rfl) | (simp [*, errW_none, errW_some] <;> rfl), by repeat (first | (with_reducible first | exact HB.out | apply below_alloc | apply pw_below_drewN | apply below_drew1) | exact HB.out)⟩

end Go.Proofs.YtadfcdpalcgghaaDoor.Q

-- Written for this claim by the session's own driver (wip/qprint.py) over the kit's printer, out of the translation. Not trusted: Lean checks it.
namespace Go.Proofs.YtadfcdpalcgghaaDoor.Q
open Go.RowKit Go.Proofs.YtadfcdpalcgghaaDoorW.PrintWords Go.Proofs.YtadfcdpalcgghaaDoorW.PrintLast Go.Proofs.YtadfcdpalcgghaaDoorW.PrintMore
attribute [local go_sem] max2_int min2_int max_two min_two max_three min_three max_four min_four   -- for this text's walks alone
set_option linter.unusedVariables false
set_option linter.unusedSimpArgs false

/-! ### pendulumref03_Named: function 35 -/
mutual
def pendulumref03_Named.j0 : Nat → ByteArray → Bool → Option (Bool)
 | 0, _, _ => none
 | k + 1, x0, x22 => if x22 = true then (some false) else (pendulumref03_Named.l0 k x0 1)
def pendulumref03_Named.l0 : Nat → ByteArray → Int → Option (Bool)
 | 0, _, _ => none
 | k + 1, x0, x3 => if x3 < (x0.size : Int) then (if 0 ≤ x3 then (if (bt x0 x3) ≥ 97 then (if (bt x0 x3) ≤ 122 then (pendulumref03_Named.l0 k x0 (wrap64 (x3 + 1))) else (if (bt x0 x3) ≥ 48 then (if (bt x0 x3) ≤ 57 then (pendulumref03_Named.l0 k x0 (wrap64 (x3 + 1))) else (if ((bt x0 x3) = 95) then (pendulumref03_Named.l0 k x0 (wrap64 (x3 + 1))) else (some false))) else (if ((bt x0 x3) = 95) then (pendulumref03_Named.l0 k x0 (wrap64 (x3 + 1))) else (some false)))) else (if (bt x0 x3) ≥ 48 then (if (bt x0 x3) ≤ 57 then (pendulumref03_Named.l0 k x0 (wrap64 (x3 + 1))) else (if ((bt x0 x3) = 95) then (pendulumref03_Named.l0 k x0 (wrap64 (x3 + 1))) else (some false))) else (if ((bt x0 x3) = 95) then (pendulumref03_Named.l0 k x0 (wrap64 (x3 + 1))) else (some false)))) else (none)) else (some true)
end
def pendulumref03_Named.f (k : Nat) (a0 : ByteArray) : Option (Bool) := if (a0.size : Int) < 1 then (pendulumref03_Named.j0 k a0 true) else (if (a0.size : Int) > 12 then (pendulumref03_Named.j0 k a0 true) else (if 0 < (a0.size : Int) then (if (bt a0 0) < 97 then (pendulumref03_Named.j0 k a0 true) else (pendulumref03_Named.j0 k a0 (decide ((bt a0 0) > 122)))) else (none)))
theorem pendulumref03_Named.mono_l : ∀ k, (∀ y0 y1, LeO (pendulumref03_Named.j0 k y0 y1) (pendulumref03_Named.j0 (k + 1) y0 y1)) ∧ (∀ y0 y1, LeO (pendulumref03_Named.l0 k y0 y1) (pendulumref03_Named.l0 (k + 1) y0 y1))
 | 0 => ⟨fun _ _ r h => by simp [pendulumref03_Named.j0] at h, fun _ _ r h => by simp [pendulumref03_Named.l0] at h⟩
 | k + 1 => by
  obtain ⟨ih0, ih1⟩ := pendulumref03_Named.mono_l k
  refine ⟨?_, ?_⟩
  ·intro y0 y1
   unfold pendulumref03_Named.j0
   repeat' first
   | (with_reducible exact ih0 _ _)
   | (with_reducible exact ih1 _ _)
   | (with_reducible exact LeO.refl _)
   | (with_reducible exact LeO.none _)
   | (with_reducible refine LeO.ite ?_ ?_)
   | (with_reducible refine LeO.bind ?_ (fun _ => ?_))
   | exact ih0 _ _
   | exact ih1 _ _
   | exact LeO.none _
   | refine LeO.ite ?_ ?_
   | refine LeO.bind ?_ (fun _ => ?_)
  ·intro y0 y1
   unfold pendulumref03_Named.l0
   repeat' first
   | (with_reducible exact ih0 _ _)
   | (with_reducible exact ih1 _ _)
   | (with_reducible exact LeO.refl _)
   | (with_reducible exact LeO.none _)
   | (with_reducible refine LeO.ite ?_ ?_)
   | (with_reducible refine LeO.bind ?_ (fun _ => ?_))
   | exact ih0 _ _
   | exact ih1 _ _
   | exact LeO.none _
   | refine LeO.ite ?_ ?_
   | refine LeO.bind ?_ (fun _ => ?_)
theorem pendulumref03_Named.mono : ∀ a0 k, LeO (pendulumref03_Named.f k a0) (pendulumref03_Named.f (k + 1) a0) := by
 intro a0 k
 obtain ⟨ih0, ih1⟩ := pendulumref03_Named.mono_l k
 unfold pendulumref03_Named.f
 repeat' first
   | (with_reducible exact ih0 _ _)
   | (with_reducible exact ih1 _ _)
   | (with_reducible exact LeO.refl _)
   | (with_reducible exact LeO.none _)
   | (with_reducible refine LeO.ite ?_ ?_)
   | (with_reducible refine LeO.bind ?_ (fun _ => ?_))
   | exact ih0 _ _
   | exact ih1 _ _
   | exact LeO.none _
   | refine LeO.ite ?_ ?_
   | refine LeO.bind ?_ (fun _ => ?_)
set_option maxHeartbeats 8000000 in
set_option maxRecDepth 100000 in
theorem pendulumref03_Named.calls (k : Nat) (a0 : ByteArray) (r : Bool) (w : World) (h : pendulumref03_Named.f k a0 = some r) :
  Calls Tryd.prog 35 #[.string a0] w fun e w' => e = .returned (.bool r) ∧ Drawn0 w w' := by
 have H : (if (a0.size : Int) < 1 then (pendulumref03_Named.j0 k a0 true) else (if (a0.size : Int) > 12 then (pendulumref03_Named.j0 k a0 true) else (if 0 < (a0.size : Int) then (if (bt a0 0) < 97 then (pendulumref03_Named.j0 k a0 true) else (pendulumref03_Named.j0 k a0 (decide ((bt a0 0) > 122)))) else (none)))) = some r := h
 clear h
 have HC2 := Aside0.mk H
 clear H
 go_enter Tryd.func35, Tryd.ntmps35
 go_upto_region 1 with (fail)
 go_cut [22] (fun v22 wc => ∃ (kq : Nat) (x22_1 : Bool), v22 = .bool x22_1 ∧ Aside0 (pendulumref03_Named.j0 kq a0 x22_1 = some r) ∧ Aside0 (kq ≤ k) ∧ Drawn0 w wc)
 case first =>
  have H := HC2.out
  clear HC2
  by_cases c3 : (a0.size : Int) < 1
  ·rw [if_pos c3] at H
   have c3b0 : decide ((a0.size : Int) < 1) = true := decide_eq_true c3
   have c3b1 : decide (a0.size < 1) = true := decide_eq_true (by omega)
   clear c3
   (first | rw [c3b0] | (simp only [i64_w, i32_w]; rw [c3b0]) | skip)
   have H' := Aside0.mk H
   clear H
   go_wp2
   go_meet
   case rel => exact ⟨_, (true), (by first | rfl | (simp; done) | (simp [*]; done)), H', ⟨by first | omega | exact Nat.le_refl _⟩, by repeat (first | exact Drawn0.refl _ | apply Drawn0.step)⟩
  ·rw [if_neg c3] at H
   have c3b0 : decide ((a0.size : Int) < 1) = false := decide_eq_false c3
   have c3b1 : decide (a0.size < 1) = false := decide_eq_false (by omega)
   clear c3
   (first | rw [c3b0] | (simp only [i64_w, i32_w]; rw [c3b0]) | skip)
   by_cases c4 : (a0.size : Int) > 12
   ·rw [if_pos c4] at H
    have c4b0 : decide (12 < (a0.size : Int)) = true := decide_eq_true c4
    have c4b1 : decide (12 < a0.size) = true := decide_eq_true (by omega)
    clear c4
    have H' := Aside0.mk H
    clear H
    go_wp2
    go_meet
    case rel => exact ⟨_, (true), (by first | rfl | (simp; done) | (simp [*]; done)), H', ⟨by first | omega | exact Nat.le_refl _⟩, by repeat (first | exact Drawn0.refl _ | apply Drawn0.step)⟩
   ·rw [if_neg c4] at H
    have c4b0 : decide (12 < (a0.size : Int)) = false := decide_eq_false c4
    have c4b1 : decide (12 < a0.size) = false := decide_eq_false (by omega)
    clear c4
    by_cases c5 : 0 < (a0.size : Int)
    ·rw [if_pos c5] at H
     have c5b0 : decide (0 < (a0.size : Int)) = true := decide_eq_true c5
     have c5b1 : decide (0 < a0.size) = true := decide_eq_true (by omega)
     clear c5
     by_cases c7 : (bt a0 0) < 97
     ·rw [if_pos c7] at H
      have c7b0 : decide ((bt a0 0) < 97) = true := decide_eq_true c7
      clear c7
      have H' := Aside0.mk H
      clear H
      have p6 : 0 ≤ (0 : Int) := (by omega)
      have q6 : 0 < a0.size := (by have : (0 : Int) < (a0.size : Int) := of_decide_eq_true (by first | (with_reducible assumption) | assumption); omega)
      have hx6 : ∀ h : 0 < a0.size, ((a0[0]'h).toNat : Int) = bt a0 0 := bt_at a0 0
      clear p6
      have qi6 : (0 < (a0.size : Int)) = True := eq_true (of_decide_eq_true (by first | (with_reducible assumption) | assumption))
      replace q6 := eq_true q6
      go_wp2
      go_meet
      case rel => exact ⟨_, (true), (by first | rfl | (simp; done) | (simp [*]; done)), H', ⟨by first | omega | exact Nat.le_refl _⟩, by repeat (first | exact Drawn0.refl _ | apply Drawn0.step)⟩
     ·rw [if_neg c7] at H
      have c7b0 : decide ((bt a0 0) < 97) = false := decide_eq_false c7
      clear c7
      have H' := Aside0.mk H
      clear H
      have p6 : 0 ≤ (0 : Int) := (by omega)
      have q6 : 0 < a0.size := (by have : (0 : Int) < (a0.size : Int) := of_decide_eq_true (by first | (with_reducible assumption) | assumption); omega)
      have hx6 : ∀ h : 0 < a0.size, ((a0[0]'h).toNat : Int) = bt a0 0 := bt_at a0 0
      clear p6
      have qi6 : (0 < (a0.size : Int)) = True := eq_true (of_decide_eq_true (by first | (with_reducible assumption) | assumption))
      replace q6 := eq_true q6
      have p8 : 0 ≤ (0 : Int) := (by omega)
      have q8 : 0 < a0.size := (by have : (0 : Int) < (a0.size : Int) := of_decide_eq_true (by first | (with_reducible assumption) | assumption); omega)
      have hx8 : ∀ h : 0 < a0.size, ((a0[0]'h).toNat : Int) = bt a0 0 := bt_at a0 0
      clear p8
      have qi8 : (0 < (a0.size : Int)) = True := eq_true (of_decide_eq_true (by first | (with_reducible assumption) | assumption))
      replace q8 := eq_true q8
      go_wp2
      go_meet
      case rel => exact ⟨_, (decide ((bt a0 0) > 122)), (by first | rfl | (simp; done) | (simp [*]; done)), H', ⟨by first | omega | exact Nat.le_refl _⟩, by repeat (first | exact Drawn0.refl _ | apply Drawn0.step)⟩
    ·rw [if_neg c5] at H
     exact absurd H (by simp)
 case rest =>
  clear HC2
  try clear p2
  try clear c3
  try clear c3b0
  try clear c3b1
  try clear c4
  try clear c4b0
  try clear c4b1
  try clear c5
  try clear c5b0
  try clear c5b1
  try clear p6
  try clear q6
  try clear hx6
  try clear qi6
  try clear c7
  try clear c7b0
  try clear p8
  try clear q8
  try clear hx8
  try clear qi8
  try clear p6
  try clear p8
  try clear q6
  try clear q8
  obtain ⟨kq, x22_1, rfl, HA, HJ1, ⟨mc1, rfl⟩⟩ := hcut
  cases kq with
  | zero => exact absurd HA.out (by simp [pendulumref03_Named.j0])
  | succ kj1 =>
   have H := HA.out
   clear HA
   simp only [pendulumref03_Named.j0] at H
   by_cases c9 : x22_1 = true
   ·subst c9
    have H1 : (some false) = some r := by rw [if_pos rfl] at H; exact H
    clear H
    have H := H1
    clear H1
    obtain rfl := Option.some.inj H
    go_wp2
    go_ret
    exact ⟨by first | rfl | (simp; done) | (simp [*]; done), by repeat (first | exact Drawn0.refl _ | apply Drawn0.step)⟩
   ·replace c9 := Bool.eq_false_iff.mpr c9
    subst c9
    have H1 : (pendulumref03_Named.l0 kj1 a0 1) = some r := by rw [if_neg (show ¬ (false = true) by decide)] at H; exact H
    clear H
    have H := H1
    clear H1
    have H' := Aside0.mk H
    clear H
    go_wp2
    go_loopg [3] kj1 (fun kq v3 w' => ∃ (x3_2 : Int), v3 = .int .i64 x3_2 ∧ Aside0 (pendulumref03_Named.l0 kq a0 x3_2 = some r) ∧ Aside0 (kq ≤ kj1) ∧ Drawn0 w w')
    case atStart => exact ⟨(1), (by first | rfl | (simp; done) | (simp [*]; done)), H', ⟨Nat.le_refl _⟩, by repeat (first | exact Drawn0.refl _ | apply Drawn0.step)⟩
    case round =>
     clear H'
     try clear c1
     try clear p2
     try clear c3
     try clear c3b0
     try clear c3b1
     try clear c4
     try clear c4b0
     try clear c4b1
     try clear c5
     try clear c5b0
     try clear c5b1
     try clear p6
     try clear q6
     try clear hx6
     try clear qi6
     try clear c7
     try clear c7b0
     try clear p8
     try clear q8
     try clear hx8
     try clear qi8
     try clear c9
     try clear p2
     try clear p6
     try clear p8
     try clear q6
     try clear q8
     obtain ⟨x3_2, rfl, HA, HK2, ⟨m2, rfl⟩⟩ := hrel
     cases gk with
     | zero => exact absurd HA.out (by simp [pendulumref03_Named.l0])
     | succ k2 =>
      have H := HA.out
      clear HA
      simp only [pendulumref03_Named.l0] at H
      by_cases c10 : x3_2 < (a0.size : Int)
      ·rw [if_pos c10] at H
       have c10b0 : decide (x3_2 < (a0.size : Int)) = true := decide_eq_true c10
       clear c10
       by_cases c11 : 0 ≤ x3_2
       ·rw [if_pos c11] at H
        have c11b0 : decide (0 ≤ x3_2) = true := decide_eq_true c11
        clear c11
        by_cases c13 : (bt a0 x3_2) ≥ 97
        ·rw [if_pos c13] at H
         have c13b0 : decide (97 ≤ (bt a0 x3_2)) = true := decide_eq_true c13
         clear c13
         by_cases c14 : (bt a0 x3_2) ≤ 122
         ·rw [if_pos c14] at H
          have c14b0 : decide ((bt a0 x3_2) ≤ 122) = true := decide_eq_true c14
          clear c14
          have H' := Aside0.mk H
          clear H
          have p12 : 0 ≤ (x3_2 : Int) := of_decide_eq_true (by first | (with_reducible assumption) | assumption)
          have q12 : x3_2 < (a0.size : Int) := of_decide_eq_true (by first | (with_reducible assumption) | assumption)
          have hx12 := bt_at a0 x3_2
          replace p12 := eq_true p12
          replace q12 := eq_true q12
          go_wp2
          go_roundg k2
          case measure => have := HJ1.out; have := HK2.out; omega
          case rel => exact ⟨(wrap64 (x3_2 + 1)), (by first | rfl | (simp; done) | (simp [*]; done)), H', ⟨by have := HJ1.out; have := HK2.out; omega⟩, by repeat (first | exact Drawn0.refl _ | apply Drawn0.step)⟩
         ·rw [if_neg c14] at H
          have c14b0 : decide ((bt a0 x3_2) ≤ 122) = false := decide_eq_false c14
          clear c14
          by_cases c15 : (bt a0 x3_2) ≥ 48
          ·rw [if_pos c15] at H
           have c15b0 : decide (48 ≤ (bt a0 x3_2)) = true := decide_eq_true c15
           clear c15
           by_cases c16 : (bt a0 x3_2) ≤ 57
           ·rw [if_pos c16] at H
            have c16b0 : decide ((bt a0 x3_2) ≤ 57) = true := decide_eq_true c16
            clear c16
            have H' := Aside0.mk H
            clear H
            have p12 : 0 ≤ (x3_2 : Int) := of_decide_eq_true (by first | (with_reducible assumption) | assumption)
            have q12 : x3_2 < (a0.size : Int) := of_decide_eq_true (by first | (with_reducible assumption) | assumption)
            have hx12 := bt_at a0 x3_2
            replace p12 := eq_true p12
            replace q12 := eq_true q12
            go_wp2
            go_roundg k2
            case measure => have := HJ1.out; have := HK2.out; omega
            case rel => exact ⟨(wrap64 (x3_2 + 1)), (by first | rfl | (simp; done) | (simp [*]; done)), H', ⟨by have := HJ1.out; have := HK2.out; omega⟩, by repeat (first | exact Drawn0.refl _ | apply Drawn0.step)⟩
           ·rw [if_neg c16] at H
            have c16b0 : decide ((bt a0 x3_2) ≤ 57) = false := decide_eq_false c16
            clear c16
            by_cases c17 : ((bt a0 x3_2) = 95)
            ·rw [if_pos c17] at H
             have c17b0 : ((bt a0 x3_2) == 95) = true := beq_iff_eq.mpr c17
             have c17b1 : ((bt a0 x3_2) != 95) = false := bne_eq_false_iff_eq.mpr c17
             clear c17
             have H' := Aside0.mk H
             clear H
             have p12 : 0 ≤ (x3_2 : Int) := of_decide_eq_true (by first | (with_reducible assumption) | assumption)
             have q12 : x3_2 < (a0.size : Int) := of_decide_eq_true (by first | (with_reducible assumption) | assumption)
             have hx12 := bt_at a0 x3_2
             replace p12 := eq_true p12
             replace q12 := eq_true q12
             go_wp2
             go_roundg k2
             case measure => have := HJ1.out; have := HK2.out; omega
             case rel => exact ⟨(wrap64 (x3_2 + 1)), (by first | rfl | (simp; done) | (simp [*]; done)), H', ⟨by have := HJ1.out; have := HK2.out; omega⟩, by repeat (first | exact Drawn0.refl _ | apply Drawn0.step)⟩
            ·rw [if_neg c17] at H
             have c17b0 : ((bt a0 x3_2) == 95) = false := beq_eq_false_iff_ne.mpr c17
             have c17b1 : ((bt a0 x3_2) != 95) = true := bne_iff_ne.mpr c17
             obtain rfl := Option.some.inj H
             have p12 : 0 ≤ (x3_2 : Int) := of_decide_eq_true (by first | (with_reducible assumption) | assumption)
             have q12 : x3_2 < (a0.size : Int) := of_decide_eq_true (by first | (with_reducible assumption) | assumption)
             have hx12 := bt_at a0 x3_2
             replace p12 := eq_true p12
             replace q12 := eq_true q12
             go_wp2
             go_ret
             exact ⟨by first | rfl | (simp; done) | (simp [*]; done), by repeat (first | exact Drawn0.refl _ | apply Drawn0.step)⟩
          ·rw [if_neg c15] at H
           have c15b0 : decide (48 ≤ (bt a0 x3_2)) = false := decide_eq_false c15
           clear c15
           by_cases c18 : ((bt a0 x3_2) = 95)
           ·rw [if_pos c18] at H
            have c18b0 : ((bt a0 x3_2) == 95) = true := beq_iff_eq.mpr c18
            have c18b1 : ((bt a0 x3_2) != 95) = false := bne_eq_false_iff_eq.mpr c18
            clear c18
            have H' := Aside0.mk H
            clear H
            have p12 : 0 ≤ (x3_2 : Int) := of_decide_eq_true (by first | (with_reducible assumption) | assumption)
            have q12 : x3_2 < (a0.size : Int) := of_decide_eq_true (by first | (with_reducible assumption) | assumption)
            have hx12 := bt_at a0 x3_2
            replace p12 := eq_true p12
            replace q12 := eq_true q12
            go_wp2
            go_roundg k2
            case measure => have := HJ1.out; have := HK2.out; omega
            case rel => exact ⟨(wrap64 (x3_2 + 1)), (by first | rfl | (simp; done) | (simp [*]; done)), H', ⟨by have := HJ1.out; have := HK2.out; omega⟩, by repeat (first | exact Drawn0.refl _ | apply Drawn0.step)⟩
           ·rw [if_neg c18] at H
            have c18b0 : ((bt a0 x3_2) == 95) = false := beq_eq_false_iff_ne.mpr c18
            have c18b1 : ((bt a0 x3_2) != 95) = true := bne_iff_ne.mpr c18
            obtain rfl := Option.some.inj H
            have p12 : 0 ≤ (x3_2 : Int) := of_decide_eq_true (by first | (with_reducible assumption) | assumption)
            have q12 : x3_2 < (a0.size : Int) := of_decide_eq_true (by first | (with_reducible assumption) | assumption)
            have hx12 := bt_at a0 x3_2
            replace p12 := eq_true p12
            replace q12 := eq_true q12
            go_wp2
            go_ret
            exact ⟨by first | rfl | (simp; done) | (simp [*]; done), by repeat (first | exact Drawn0.refl _ | apply Drawn0.step)⟩
        ·rw [if_neg c13] at H
         have c13b0 : decide (97 ≤ (bt a0 x3_2)) = false := decide_eq_false c13
         clear c13
         by_cases c19 : (bt a0 x3_2) ≥ 48
         ·rw [if_pos c19] at H
          have c19b0 : decide (48 ≤ (bt a0 x3_2)) = true := decide_eq_true c19
          clear c19
          by_cases c20 : (bt a0 x3_2) ≤ 57
          ·rw [if_pos c20] at H
           have c20b0 : decide ((bt a0 x3_2) ≤ 57) = true := decide_eq_true c20
           clear c20
           have H' := Aside0.mk H
           clear H
           have p12 : 0 ≤ (x3_2 : Int) := of_decide_eq_true (by first | (with_reducible assumption) | assumption)
           have q12 : x3_2 < (a0.size : Int) := of_decide_eq_true (by first | (with_reducible assumption) | assumption)
           have hx12 := bt_at a0 x3_2
           replace p12 := eq_true p12
           replace q12 := eq_true q12
           go_wp2
           go_roundg k2
           case measure => have := HJ1.out; have := HK2.out; omega
           case rel => exact ⟨(wrap64 (x3_2 + 1)), (by first | rfl | (simp; done) | (simp [*]; done)), H', ⟨by have := HJ1.out; have := HK2.out; omega⟩, by repeat (first | exact Drawn0.refl _ | apply Drawn0.step)⟩
          ·rw [if_neg c20] at H
           have c20b0 : decide ((bt a0 x3_2) ≤ 57) = false := decide_eq_false c20
           clear c20
           by_cases c21 : ((bt a0 x3_2) = 95)
           ·rw [if_pos c21] at H
            have c21b0 : ((bt a0 x3_2) == 95) = true := beq_iff_eq.mpr c21
            have c21b1 : ((bt a0 x3_2) != 95) = false := bne_eq_false_iff_eq.mpr c21
            clear c21
            have H' := Aside0.mk H
            clear H
            have p12 : 0 ≤ (x3_2 : Int) := of_decide_eq_true (by first | (with_reducible assumption) | assumption)
            have q12 : x3_2 < (a0.size : Int) := of_decide_eq_true (by first | (with_reducible assumption) | assumption)
            have hx12 := bt_at a0 x3_2
            replace p12 := eq_true p12
            replace q12 := eq_true q12
            go_wp2
            go_roundg k2
            case measure => have := HJ1.out; have := HK2.out; omega
            case rel => exact ⟨(wrap64 (x3_2 + 1)), (by first | rfl | (simp; done) | (simp [*]; done)), H', ⟨by have := HJ1.out; have := HK2.out; omega⟩, by repeat (first | exact Drawn0.refl _ | apply Drawn0.step)⟩
           ·rw [if_neg c21] at H
            have c21b0 : ((bt a0 x3_2) == 95) = false := beq_eq_false_iff_ne.mpr c21
            have c21b1 : ((bt a0 x3_2) != 95) = true := bne_iff_ne.mpr c21
            obtain rfl := Option.some.inj H
            have p12 : 0 ≤ (x3_2 : Int) := of_decide_eq_true (by first | (with_reducible assumption) | assumption)
            have q12 : x3_2 < (a0.size : Int) := of_decide_eq_true (by first | (with_reducible assumption) | assumption)
            have hx12 := bt_at a0 x3_2
            replace p12 := eq_true p12
            replace q12 := eq_true q12
            go_wp2
            go_ret
            exact ⟨by first | rfl | (simp; done) | (simp [*]; done), by repeat (first | exact Drawn0.refl _ | apply Drawn0.step)⟩
         ·rw [if_neg c19] at H
          have c19b0 : decide (48 ≤ (bt a0 x3_2)) = false := decide_eq_false c19
          clear c19
          by_cases c22 : ((bt a0 x3_2) = 95)
          ·rw [if_pos c22] at H
           have c22b0 : ((bt a0 x3_2) == 95) = true := beq_iff_eq.mpr c22
           have c22b1 : ((bt a0 x3_2) != 95) = false := bne_eq_false_iff_eq.mpr c22
           clear c22
           have H' := Aside0.mk H
           clear H
           have p12 : 0 ≤ (x3_2 : Int) := of_decide_eq_true (by first | (with_reducible assumption) | assumption)
           have q12 : x3_2 < (a0.size : Int) := of_decide_eq_true (by first | (with_reducible assumption) | assumption)
           have hx12 := bt_at a0 x3_2
           replace p12 := eq_true p12
           replace q12 := eq_true q12
           go_wp2
           go_roundg k2
           case measure => have := HJ1.out; have := HK2.out; omega
           case rel => exact ⟨(wrap64 (x3_2 + 1)), (by first | rfl | (simp; done) | (simp [*]; done)), H', ⟨by have := HJ1.out; have := HK2.out; omega⟩, by repeat (first | exact Drawn0.refl _ | apply Drawn0.step)⟩
          ·rw [if_neg c22] at H
           have c22b0 : ((bt a0 x3_2) == 95) = false := beq_eq_false_iff_ne.mpr c22
           have c22b1 : ((bt a0 x3_2) != 95) = true := bne_iff_ne.mpr c22
           obtain rfl := Option.some.inj H
           have p12 : 0 ≤ (x3_2 : Int) := of_decide_eq_true (by first | (with_reducible assumption) | assumption)
           have q12 : x3_2 < (a0.size : Int) := of_decide_eq_true (by first | (with_reducible assumption) | assumption)
           have hx12 := bt_at a0 x3_2
           replace p12 := eq_true p12
           replace q12 := eq_true q12
           go_wp2
           go_ret
           exact ⟨by first | rfl | (simp; done) | (simp [*]; done), by repeat (first | exact Drawn0.refl _ | apply Drawn0.step)⟩
       ·rw [if_neg c11] at H
        exact absurd H (by simp)
      ·rw [if_neg c10] at H
       have c10b0 : decide (x3_2 < (a0.size : Int)) = false := decide_eq_false c10
       clear c10
       obtain rfl := Option.some.inj H
       go_wp2
       go_ret
       exact ⟨by first | rfl | (simp; done) | (simp [*]; done), by repeat (first | exact Drawn0.refl _ | apply Drawn0.step)⟩

end Go.Proofs.YtadfcdpalcgghaaDoor.Q

-- The reference's Named tells what index.Named tells (no program in sight).
namespace Go.Proofs.YtadfcdpalcgghaaDoor.Q
open Go.RowKit Go.Proofs.YtadfcdpalcgghaaDoorW.PrintWords Go.Proofs.YtadfcdpalcgghaaDoorW.PrintLast Go.Proofs.YtadfcdpalcgghaaDoorW.PrintMore
attribute [local go_sem] max2_int min2_int max_two min_two max_three min_three max_four min_four   -- for this text's walks alone
set_option linter.unusedVariables false
set_option linter.unusedSimpArgs false

theorem wrap_ok0 {x : Int} (h0 : -1000000000000000000 ≤ x) (h1 : x ≤ 1000000000000000000) : wrap64 x = x := by unfold wrap64; omega
def okc (c : Int) : Bool := (decide (97 ≤ c) && decide (c ≤ 122)) || (decide (48 ≤ c) && decide (c ≤ 57)) || (c == 95)
theorem okc_all : ∀ n : Fin 256, nOthers.contains (UInt8.ofNat n.val) = okc (n.val : Int) := by decide +kernel
theorem let_all : ∀ n : Fin 256, nLetters.contains (UInt8.ofNat n.val) = (decide (97 ≤ (n.val : Int)) && decide ((n.val : Int) ≤ 122)) := by decide +kernel
theorem okc_u (b : UInt8) : nOthers.contains b = okc (b.toNat : Int) := by
 have h := okc_all ⟨b.toNat, UInt8.toNat_lt b⟩
 simpa using h
theorem let_u (b : UInt8) : nLetters.contains b = (decide (97 ≤ (b.toNat : Int)) && decide ((b.toNat : Int) ≤ 122)) := by
 have h := let_all ⟨b.toNat, UInt8.toNat_lt b⟩
 simpa using h
theorem bt_cell (a : ByteArray) (i : Nat) (h : i < a.size) : ∃ b : UInt8, a.data.toList.drop i = b :: a.data.toList.drop (i + 1) ∧ bt a (i : Int) = (b.toNat : Int) := by
 have hl : i < a.data.toList.length := by simpa using h
 refine ⟨a.data.toList[i], (List.drop_eq_getElem_cons hl), ?_⟩
 unfold bt
 rw [dif_pos (by simpa using h)]
 simp [ByteArray.getElem_eq_getElem_data]
theorem named_step (k : Nat) (a : ByteArray) (i : Nat) (h : i < a.size) (hs : a.size ≤ 12) : pendulumref03_Named.l0 (k + 1) a (i : Int) = if okc (bt a (i : Int)) = true then pendulumref03_Named.l0 k a ((i + 1 : Nat) : Int) else some false := by
 have hw : wrap64 ((i : Int) + 1) = ((i + 1 : Nat) : Int) := by rw [wrap_ok0 (by omega) (by omega)]; omega
 rw [pendulumref03_Named.l0, if_pos (by omega), if_pos (by omega), hw]
 obtain ⟨c, hc⟩ : ∃ c, bt a (i : Int) = c := ⟨_, rfl⟩
 rw [hc]
 unfold okc
 by_cases h1 : c ≥ 97
 ·by_cases h2 : c ≤ 122
  ·simp [h1, h2]
  ·have h3 : ¬ c ≤ 57 := by omega
   have h4 : ¬ c = 95 := by omega
   simp [h1, h2, h3, h4]
 ·by_cases h2 : c ≥ 48
  ·by_cases h3 : c ≤ 57
   ·simp [h1, h2, h3]
   ·by_cases h4 : c = 95
    ·subst h4; simp
    ·simp [h1, h2, h3, h4]
  ·have h4 : ¬ c = 95 := by omega
   simp [h1, h2, h4]
theorem named_loop (a : ByteArray) (hs : a.size ≤ 12) : ∀ (n i k : Nat), i + n = a.size → n < k → pendulumref03_Named.l0 k a (i : Int) = some ((a.data.toList.drop i).all (nOthers.contains ·))
 | 0, i, k, h, hk => by
  obtain ⟨k, rfl⟩ : ∃ j, k = j + 1 := ⟨k - 1, by omega⟩
  rw [pendulumref03_Named.l0, if_neg (by omega), List.drop_of_length_le (by simp; omega)]
  rfl
 | n + 1, i, k, h, hk => by
  obtain ⟨k, rfl⟩ : ∃ j, k = j + 1 := ⟨k - 1, by omega⟩
  obtain ⟨b, hb, hbt⟩ := bt_cell a i (by omega)
  rw [named_step k a i (by omega) hs, hbt, hb, List.all_cons, okc_u, named_loop a hs n (i + 1) k (by omega) (by omega)]
  cases okc (b.toNat : Int) <;> simp
theorem ref_named (a : ByteArray) : ∀ k, 20 ≤ k → pendulumref03_Named.f k a = some (named a) := by
 intro k hk
 obtain ⟨k, rfl⟩ : ∃ j, k = j + 1 := ⟨k - 1, by omega⟩
 unfold pendulumref03_Named.f named
 by_cases h1 : (a.size : Int) < 1
 ·rw [if_pos h1, decide_eq_false (show ¬ 1 ≤ a.size by omega)]
  rfl
 ·rw [if_neg h1, decide_eq_true (show 1 ≤ a.size by omega)]
  by_cases h2 : (a.size : Int) > 12
  ·rw [if_pos h2, decide_eq_false (show ¬ a.size ≤ 12 by omega)]
   rfl
  ·rw [if_neg h2, decide_eq_true (show a.size ≤ 12 by omega), if_pos (by omega)]
   obtain ⟨b, hb, hbt⟩ := bt_cell a 0 (by omega)
   rw [List.drop_zero] at hb
   have hbt0 : bt a 0 = (b.toNat : Int) := hbt
   have hloop := named_loop a (by omega) (a.size - 1) 1 k (by omega) (by omega)
   have e1 : ((1 : Nat) : Int) = 1 := rfl
   rw [e1] at hloop
   rw [hbt0, hb, List.take_succ_cons, List.take_zero, List.all_cons, List.all_nil, let_u, List.all_cons, okc_u]
   simp only [Nat.zero_add] at hb ⊢
   by_cases h3 : (b.toNat : Int) < 97
   ·rw [if_pos h3, decide_eq_false (show ¬ 97 ≤ (b.toNat : Int) by omega)]
    rfl
   ·rw [if_neg h3, decide_eq_true (show 97 ≤ (b.toNat : Int) by omega)]
    by_cases h4 : (b.toNat : Int) > 122
    ·rw [decide_eq_true h4, decide_eq_false (show ¬ (b.toNat : Int) ≤ 122 by omega)]
     rfl
    ·rw [decide_eq_false h4, decide_eq_true (show (b.toNat : Int) ≤ 122 by omega)]
     rw [pendulumref03_Named.j0, if_neg Bool.false_ne_true, hloop]
     have : okc (b.toNat : Int) = true := by unfold okc; simp; omega
     rw [this]
     simp
end Go.Proofs.YtadfcdpalcgghaaDoor.Q

-- Written for this claim by the session's own driver (wip/qprint.py) over the kit's printer, out of the translation. Not trusted: Lean checks it.
namespace Go.Proofs.YtadfcdpalcgghaaDoor.Q
open Go.RowKit Go.Proofs.YtadfcdpalcgghaaDoorW.PrintWords Go.Proofs.YtadfcdpalcgghaaDoorW.PrintLast Go.Proofs.YtadfcdpalcgghaaDoorW.PrintMore
attribute [local go_sem] max2_int min2_int max_two min_two max_three min_three max_four min_four   -- for this text's walks alone
set_option linter.unusedVariables false
set_option linter.unusedSimpArgs false

/-! ### lex_small: function 46 -/
def lex_small.f (a0 : Int) : Option (Bool) := if a0 ≥ 97 then (some (decide (a0 ≤ 122))) else (some false)
set_option maxHeartbeats 8000000 in
set_option maxRecDepth 100000 in
theorem lex_small.calls (a0 : Int) (r : Bool) (w : World) (h : lex_small.f a0 = some r) :
  Calls Tryd.prog 46 #[.int .u8 a0] w fun e w' => e = .returned (.bool r) ∧ Drawn0 w w' := by
 have H : (if a0 ≥ 97 then (some (decide (a0 ≤ 122))) else (some false)) = some r := h
 clear h
 by_cases c2 : a0 ≥ 97
 ·rw [if_pos c2] at H
  have c2b0 : decide (97 ≤ a0) = true := decide_eq_true c2
  clear c2
  obtain rfl := Option.some.inj H
  go_enter Tryd.func46, Tryd.ntmps46
  go_wp2
  go_ret
  exact ⟨by first | rfl | (simp; done) | (simp [*]; done), by repeat (first | exact Drawn0.refl _ | apply Drawn0.step)⟩
 ·rw [if_neg c2] at H
  have c2b0 : decide (97 ≤ a0) = false := decide_eq_false c2
  clear c2
  obtain rfl := Option.some.inj H
  go_enter Tryd.func46, Tryd.ntmps46
  go_wp2
  go_ret
  exact ⟨by first | rfl | (simp; done) | (simp [*]; done), by repeat (first | exact Drawn0.refl _ | apply Drawn0.step)⟩

/-! ### lex_digit: function 49 -/
def lex_digit.f (a0 : Int) : Option (Bool) := if a0 ≥ 48 then (some (decide (a0 ≤ 57))) else (some false)
set_option maxHeartbeats 8000000 in
set_option maxRecDepth 100000 in
theorem lex_digit.calls (a0 : Int) (r : Bool) (w : World) (h : lex_digit.f a0 = some r) :
  Calls Tryd.prog 49 #[.int .u8 a0] w fun e w' => e = .returned (.bool r) ∧ Drawn0 w w' := by
 have H : (if a0 ≥ 48 then (some (decide (a0 ≤ 57))) else (some false)) = some r := h
 clear h
 by_cases c2 : a0 ≥ 48
 ·rw [if_pos c2] at H
  have c2b0 : decide (48 ≤ a0) = true := decide_eq_true c2
  clear c2
  obtain rfl := Option.some.inj H
  go_enter Tryd.func49, Tryd.ntmps49
  go_wp2
  go_ret
  exact ⟨by first | rfl | (simp; done) | (simp [*]; done), by repeat (first | exact Drawn0.refl _ | apply Drawn0.step)⟩
 ·rw [if_neg c2] at H
  have c2b0 : decide (48 ≤ a0) = false := decide_eq_false c2
  clear c2
  obtain rfl := Option.some.inj H
  go_enter Tryd.func49, Tryd.ntmps49
  go_wp2
  go_ret
  exact ⟨by first | rfl | (simp; done) | (simp [*]; done), by repeat (first | exact Drawn0.refl _ | apply Drawn0.step)⟩

/-! ### lex_inWord: function 48 -/
def lex_inWord.f (a0 : Int) : Option (Bool) := (lex_small.f a0).bind fun t179 => (if t179 = true then (some true) else ((lex_digit.f a0).bind fun t180 => (if t180 = true then (some true) else (some (a0 == 95)))))
set_option maxHeartbeats 8000000 in
set_option maxRecDepth 100000 in
theorem lex_inWord.calls (a0 : Int) (r : Bool) (w : World) (h : lex_inWord.f a0 = some r) :
  Calls Tryd.prog 48 #[.int .u8 a0] w fun e w' => e = .returned (.bool r) ∧ Drawn0 w w' := by
 have H : ((lex_small.f a0).bind fun t179 => (if t179 = true then (some true) else ((lex_digit.f a0).bind fun t180 => (if t180 = true then (some true) else (some (a0 == 95)))))) = some r := h
 clear h
 replace H := Option.bind_eq_some_iff.mp H
 obtain ⟨t179, A20, H⟩ := H
 replace H : (if t179 = true then (some true) else ((lex_digit.f a0).bind fun t180 => (if t180 = true then (some true) else (some (a0 == 95))))) = some r := H
 have A2 := Aside0.mk A20
 clear A20
 by_cases c3 : t179 = true
 ·subst c3
  have H1 : (some true) = some r := by rw [if_pos rfl] at H; exact H
  clear H
  have H := H1
  clear H1
  obtain rfl := Option.some.inj H
  go_enter Tryd.func48, Tryd.ntmps48
  go_wp2_with (first | ((with_reducible refine gate_callee (f := 46) rfl ?_); refine goesL_ (some 4) rfl rfl Tryd.func46 (by kernel_rfl) rfl #[.int .u8 a0] rfl (by (try simp only [List.map_toArray, List.map_cons, List.map_nil]); first | done | rfl | (simp only [List.length_drop, List.length_take]; rfl)) ?_; (with_reducible refine (lex_small.calls a0 true _ A2.out).mono ?_); rintro e w' ⟨rfl, ⟨nd, rfl⟩⟩; refine ⟨_, rfl, ?_⟩))
  go_ret
  exact ⟨by first | rfl | (simp; done) | (simp [*]; done), by repeat (first | exact Drawn0.refl _ | apply Drawn0.step)⟩
 ·replace c3 := Bool.eq_false_iff.mpr c3
  subst c3
  have H1 : ((lex_digit.f a0).bind fun t180 => (if t180 = true then (some true) else (some (a0 == 95)))) = some r := by rw [if_neg (show ¬ (false = true) by decide)] at H; exact H
  clear H
  have H := H1
  clear H1
  replace H := Option.bind_eq_some_iff.mp H
  obtain ⟨t180, A40, H⟩ := H
  replace H : (if t180 = true then (some true) else (some (a0 == 95))) = some r := H
  have A4 := Aside0.mk A40
  clear A40
  by_cases c5 : t180 = true
  ·subst c5
   have H1 : (some true) = some r := by rw [if_pos rfl] at H; exact H
   clear H
   have H := H1
   clear H1
   obtain rfl := Option.some.inj H
   go_enter Tryd.func48, Tryd.ntmps48
   go_wp2_with (first | ((with_reducible refine gate_callee (f := 46) rfl ?_); refine goesL_ (some 4) rfl rfl Tryd.func46 (by kernel_rfl) rfl #[.int .u8 a0] rfl (by (try simp only [List.map_toArray, List.map_cons, List.map_nil]); first | done | rfl | (simp only [List.length_drop, List.length_take]; rfl)) ?_; (with_reducible refine (lex_small.calls a0 false _ A2.out).mono ?_); rintro e w' ⟨rfl, ⟨nd, rfl⟩⟩; refine ⟨_, rfl, ?_⟩) | (go_at_call 49; (with_reducible refine (lex_digit.calls a0 true _ A4.out).mono ?_); rintro e w' ⟨rfl, ⟨nd, rfl⟩⟩))
   go_ret
   exact ⟨by first | rfl | (simp; done) | (simp [*]; done), by repeat (first | exact Drawn0.refl _ | apply Drawn0.step)⟩
  ·replace c5 := Bool.eq_false_iff.mpr c5
   subst c5
   have H1 : (some (a0 == 95)) = some r := by rw [if_neg (show ¬ (false = true) by decide)] at H; exact H
   clear H
   have H := H1
   clear H1
   obtain rfl := Option.some.inj H
   go_enter Tryd.func48, Tryd.ntmps48
   go_wp2_with (first | ((with_reducible refine gate_callee (f := 46) rfl ?_); refine goesL_ (some 4) rfl rfl Tryd.func46 (by kernel_rfl) rfl #[.int .u8 a0] rfl (by (try simp only [List.map_toArray, List.map_cons, List.map_nil]); first | done | rfl | (simp only [List.length_drop, List.length_take]; rfl)) ?_; (with_reducible refine (lex_small.calls a0 false _ A2.out).mono ?_); rintro e w' ⟨rfl, ⟨nd, rfl⟩⟩; refine ⟨_, rfl, ?_⟩) | (go_at_call 49; (with_reducible refine (lex_digit.calls a0 false _ A4.out).mono ?_); rintro e w' ⟨rfl, ⟨nd, rfl⟩⟩))
   go_ret
   exact ⟨by first | rfl | (simp; done) | (simp [*]; done), by repeat (first | exact Drawn0.refl _ | apply Drawn0.step)⟩

/-! ### lex_inRemark: function 51 -/
def lex_inRemark.f (a0 : Int) : Option (Bool) := some (a0 != 10)
set_option maxHeartbeats 8000000 in
set_option maxRecDepth 100000 in
theorem lex_inRemark.calls (a0 : Int) (r : Bool) (w : World) (h : lex_inRemark.f a0 = some r) :
  Calls Tryd.prog 51 #[.int .u8 a0] w fun e w' => e = .returned (.bool r) ∧ Drawn0 w w' := by
 have H : (some (a0 != 10)) = some r := h
 clear h
 obtain rfl := Option.some.inj H
 go_enter Tryd.func51, Tryd.ntmps51
 go_wp2
 go_ret
 exact ⟨by first | rfl | (simp; done) | (simp [*]; done), by repeat (first | exact Drawn0.refl _ | apply Drawn0.step)⟩

end Go.Proofs.YtadfcdpalcgghaaDoor.Q

-- Written for this claim by the session's own driver (wip/qprint.py) over the kit's printer, out of the translation. Not trusted: Lean checks it.
namespace Go.Proofs.YtadfcdpalcgghaaDoor.Q
open Go.RowKit Go.Proofs.YtadfcdpalcgghaaDoorW.PrintWords Go.Proofs.YtadfcdpalcgghaaDoorW.PrintLast Go.Proofs.YtadfcdpalcgghaaDoorW.PrintMore
attribute [local go_sem] max2_int min2_int max_two min_two max_three min_three max_four min_four   -- for this text's walks alone
set_option linter.unusedVariables false
set_option linter.unusedSimpArgs false

/-! ### slices_Index_string_string: function 54 -/
def slices_Index_string_string.l0 : Nat → List ByteArray → ByteArray → Int → Int → Option (Int)
 | 0, _, _, _, _ => none
 | k + 1, x0, x1, x7, x8 => if x8 < x7 then (if 0 ≤ x8 then (if x8 < (x0.length : Int) then (if x1.toList = (rdOf ByteArray.empty x0 x8).toList then (some x8) else (slices_Index_string_string.l0 k x0 x1 x7 (wrap64 (x8 + 1)))) else (none)) else (none)) else (some (-1))
def slices_Index_string_string.f (k : Nat) (l0 : List ByteArray) (a1 : ByteArray) : Option (Int) := slices_Index_string_string.l0 k l0 a1 (l0.length : Int) 0
theorem slices_Index_string_string.mono_l : ∀ k, (∀ y0 y1 y2 y3, LeO (slices_Index_string_string.l0 k y0 y1 y2 y3) (slices_Index_string_string.l0 (k + 1) y0 y1 y2 y3))
 | 0 => fun _ _ _ _ r h => by simp [slices_Index_string_string.l0] at h
 | k + 1 => by
  have ih0 := slices_Index_string_string.mono_l k
  ·intro y0 y1 y2 y3
   unfold slices_Index_string_string.l0
   repeat' first
   | (with_reducible exact ih0 _ _ _ _)
   | (with_reducible exact LeO.refl _)
   | (with_reducible exact LeO.none _)
   | (with_reducible refine LeO.ite ?_ ?_)
   | (with_reducible refine LeO.bind ?_ (fun _ => ?_))
   | exact ih0 _ _ _ _
   | exact LeO.none _
   | refine LeO.ite ?_ ?_
   | refine LeO.bind ?_ (fun _ => ?_)
theorem slices_Index_string_string.mono : ∀ a0 a1 k, LeO (slices_Index_string_string.f k a0 a1) (slices_Index_string_string.f (k + 1) a0 a1) := by
 intro a0 a1 k
 have ih0 := slices_Index_string_string.mono_l k
 unfold slices_Index_string_string.f
 repeat' first
   | (with_reducible exact ih0 _ _ _ _)
   | (with_reducible exact LeO.refl _)
   | (with_reducible exact LeO.none _)
   | (with_reducible refine LeO.ite ?_ ?_)
   | (with_reducible refine LeO.bind ?_ (fun _ => ?_))
   | exact ih0 _ _ _ _
   | exact LeO.none _
   | refine LeO.ite ?_ ?_
   | refine LeO.bind ?_ (fun _ => ?_)
set_option maxHeartbeats 8000000 in
set_option maxRecDepth 100000 in
theorem slices_Index_string_string.calls (k : Nat) (A0 : Option Addr) (c0 : Nat) (l0 : List ByteArray) (a1 : ByteArray) (r : Int) (w : World) (hr0 : Kd.C Kd.string w A0 l0.length l0) (hc0 : l0.length ≤ c0) (h : slices_Index_string_string.f k l0 a1 = some r) :
  Calls Tryd.prog 54 #[.slice A0 l0.length c0, .string a1] w fun e w' => e = .returned (.int .i64 r) ∧ Drawn0 w w' := by
 have HR0 := Aside0.mk hr0
 have HC0 := Aside0.mk hc0
 clear hr0 hc0
 have H : (slices_Index_string_string.l0 k l0 a1 (l0.length : Int) 0) = some r := h
 clear h
 have H' := Aside0.mk H
 clear H
 go_enter Tryd.func54, Tryd.ntmps54
 go_wp2
 go_loopg [8] k (fun kq v8 w' => ∃ (x8_1 : Int), v8 = .int .i64 x8_1 ∧ Aside0 (slices_Index_string_string.l0 kq l0 a1 (l0.length : Int) x8_1 = some r) ∧ Aside0 (kq ≤ k) ∧ Drawn0 w w')
 case atStart => exact ⟨(0), (by first | rfl | (simp; done) | (simp [*]; done)), H', ⟨Nat.le_refl _⟩, by repeat (first | exact Drawn0.refl _ | apply Drawn0.step)⟩
 case round =>
  clear H'
  try clear p2
  obtain ⟨x8_1, rfl, HA, HK1, ⟨m1, rfl⟩⟩ := hrel
  cases gk with
  | zero => exact absurd HA.out (by simp [slices_Index_string_string.l0])
  | succ k1 =>
   have H := HA.out
   clear HA
   simp only [slices_Index_string_string.l0] at H
   by_cases c3 : x8_1 < (l0.length : Int)
   ·rw [if_pos c3] at H
    have c3b0 : decide (x8_1 < (l0.length : Int)) = true := decide_eq_true c3
    clear c3
    by_cases c4 : 0 ≤ x8_1
    ·rw [if_pos c4] at H
     have c4b0 : decide (0 ≤ x8_1) = true := decide_eq_true c4
     clear c4
     by_cases c5 : x8_1 < (l0.length : Int)
     ·rw [if_pos c5] at H
      have c5b0 : decide (x8_1 < (l0.length : Int)) = true := decide_eq_true c5
      clear c5
      by_cases c6 : a1.toList = (rdOf ByteArray.empty l0 x8_1).toList
      ·rw [if_pos c6] at H
       have c6b0 : (a1.toList == (rdOf ByteArray.empty l0 x8_1).toList) = true := beq_iff_eq.mpr c6
       have c6b1 : (a1.toList != (rdOf ByteArray.empty l0 x8_1).toList) = false := bne_eq_false_iff_eq.mpr c6
       clear c6
       obtain rfl := Option.some.inj H
       have p181 : 0 ≤ (x8_1 : Int) := of_decide_eq_true (by first | (with_reducible assumption) | assumption)
       have q181 : x8_1 < (l0.length : Int) := of_decide_eq_true (by first | (with_reducible assumption) | assumption)
       obtain ⟨ad181, e181, hx181_0⟩ := Kd.at_string HR0.out x8_1 p181 q181
       cases e181
       replace p181 := eq_true p181
       replace q181 := eq_true q181
       go_wp2
       go_ret
       exact ⟨by first | rfl | (simp; done) | (simp [*]; done), by repeat (first | exact Drawn0.refl _ | apply Drawn0.step)⟩
      ·rw [if_neg c6] at H
       have c6b0 : (a1.toList == (rdOf ByteArray.empty l0 x8_1).toList) = false := beq_eq_false_iff_ne.mpr c6
       have c6b1 : (a1.toList != (rdOf ByteArray.empty l0 x8_1).toList) = true := bne_iff_ne.mpr c6
       have H' := Aside0.mk H
       clear H
       have p181 : 0 ≤ (x8_1 : Int) := of_decide_eq_true (by first | (with_reducible assumption) | assumption)
       have q181 : x8_1 < (l0.length : Int) := of_decide_eq_true (by first | (with_reducible assumption) | assumption)
       obtain ⟨ad181, e181, hx181_0⟩ := Kd.at_string HR0.out x8_1 p181 q181
       cases e181
       replace p181 := eq_true p181
       replace q181 := eq_true q181
       go_wp2
       go_roundg k1
       case measure => have := HK1.out; omega
       case rel => exact ⟨(wrap64 (x8_1 + 1)), (by first | rfl | (simp; done) | (simp [*]; done)), H', ⟨by have := HK1.out; omega⟩, by repeat (first | exact Drawn0.refl _ | apply Drawn0.step)⟩
     ·rw [if_neg c5] at H
      exact absurd H (by simp)
    ·rw [if_neg c4] at H
     exact absurd H (by simp)
   ·rw [if_neg c3] at H
    have c3b0 : decide (x8_1 < (l0.length : Int)) = false := decide_eq_false c3
    clear c3
    obtain rfl := Option.some.inj H
    go_wp2
    go_ret
    exact ⟨by first | rfl | (simp; done) | (simp [*]; done), by repeat (first | exact Drawn0.refl _ | apply Drawn0.step)⟩

/-! ### slices_Contains_string_string: function 52 -/
def slices_Contains_string_string.f (k : Nat) (l0 : List ByteArray) (a1 : ByteArray) : Option (Bool) := (slices_Index_string_string.f k l0 a1).bind fun t182 => (some (decide (t182 ≥ 0)))
theorem slices_Contains_string_string.mono : ∀ a0 a1 k, LeO (slices_Contains_string_string.f k a0 a1) (slices_Contains_string_string.f (k + 1) a0 a1) := by
 intro a0 a1 k
 unfold slices_Contains_string_string.f
 repeat' first
   | (with_reducible exact slices_Index_string_string.mono _ _ _)
   | (with_reducible exact LeO.refl _)
   | (with_reducible exact LeO.none _)
   | (with_reducible refine LeO.ite ?_ ?_)
   | (with_reducible refine LeO.bind ?_ (fun _ => ?_))
   | exact slices_Index_string_string.mono _ _ _
   | exact LeO.none _
   | refine LeO.ite ?_ ?_
   | refine LeO.bind ?_ (fun _ => ?_)
set_option maxHeartbeats 8000000 in
set_option maxRecDepth 100000 in
theorem slices_Contains_string_string.calls (k : Nat) (A0 : Option Addr) (c0 : Nat) (l0 : List ByteArray) (a1 : ByteArray) (r : Bool) (w : World) (hr0 : Kd.C Kd.string w A0 l0.length l0) (hc0 : l0.length ≤ c0) (h : slices_Contains_string_string.f k l0 a1 = some r) :
  Calls Tryd.prog 52 #[.slice A0 l0.length c0, .string a1] w fun e w' => e = .returned (.bool r) ∧ Drawn0 w w' := by
 have HR0 := Aside0.mk hr0
 have HC0 := Aside0.mk hc0
 clear hr0 hc0
 have H : ((slices_Index_string_string.f k l0 a1).bind fun t182 => (some (decide (t182 ≥ 0)))) = some r := h
 clear h
 replace H := Option.bind_eq_some_iff.mp H
 obtain ⟨t182, A30, H⟩ := H
 replace H : (some (decide (t182 ≥ 0))) = some r := H
 have A3 := Aside0.mk A30
 clear A30
 obtain rfl := Option.some.inj H
 go_enter Tryd.func52, Tryd.ntmps52
 go_wp2_with (first | ((with_reducible refine gate_callee (f := 54) rfl ?_); refine goesL_ (some 7) rfl rfl Tryd.func54 (by kernel_rfl) rfl #[.slice A0 l0.length c0, .string a1] rfl (by (try simp only [List.map_toArray, List.map_cons, List.map_nil]); first | done | rfl | (simp only [List.length_drop, List.length_take]; rfl)) ?_; (with_reducible refine (slices_Index_string_string.calls k _ _ l0 a1 t182 _ ?side1 ?side2 A3.out).mono ?_); (case side1 => repeat (first | exact HR0.out | (with_reducible refine Kd.C_alloc ?_ _) | (with_reducible refine Kd.C_drewN ?_ _) | (with_reducible refine Kd.C_drew ?_))); (case side2 => exact HC0.out); rintro e w' ⟨rfl, ⟨nd, rfl⟩⟩; refine ⟨_, rfl, ?_⟩))
 go_ret
 exact ⟨by first | rfl | (simp; done) | (simp [*]; done), by repeat (first | exact Drawn0.refl _ | apply Drawn0.step)⟩

end Go.Proofs.YtadfcdpalcgghaaDoor.Q

-- slices.Index and slices.Contains of texts, as plain functions (no program in sight).
namespace Go.Proofs.YtadfcdpalcgghaaDoor.Q
open Go.RowKit Go.Proofs.YtadfcdpalcgghaaDoorW.PrintWords Go.Proofs.YtadfcdpalcgghaaDoorW.PrintLast Go.Proofs.YtadfcdpalcgghaaDoorW.PrintMore
attribute [local go_sem] max2_int min2_int max_two min_two max_three min_three max_four min_four   -- for this text's walks alone
set_option linter.unusedVariables false
set_option linter.unusedSimpArgs false

theorem wrap_ok1 {x : Int} (h0 : -1000000000000000000 ≤ x) (h1 : x ≤ 1000000000000000000) : wrap64 x = x := by unfold wrap64; omega
def idxGo : List ByteArray → ByteArray → Int → Int
 | [], _, _ => -1
 | y :: r, x, i => if x.toList = y.toList then i else idxGo r x (i + 1)
theorem idx_loop (l : List ByteArray) (x : ByteArray) (hl : l.length ≤ 1000000) : ∀ (n i k : Nat), i + n = l.length → n < k → slices_Index_string_string.l0 k l x (l.length : Int) (i : Int) = some (idxGo (l.drop i) x (i : Int))
 | 0, i, k, h, hk => by
  obtain ⟨k, rfl⟩ : ∃ j, k = j + 1 := ⟨k - 1, by omega⟩
  rw [slices_Index_string_string.l0, if_neg (by omega), List.drop_of_length_le (by omega)]
  rfl
 | n + 1, i, k, h, hk => by
  obtain ⟨k, rfl⟩ : ∃ j, k = j + 1 := ⟨k - 1, by omega⟩
  have hi : i < l.length := by omega
  have hg : rdOf ByteArray.empty l (i : Int) = l[i] := by simp [rdOf, List.getD_eq_getElem?_getD, List.getElem?_eq_getElem hi]
  rw [slices_Index_string_string.l0, if_pos (by omega), if_pos (by omega), if_pos (by omega), hg, List.drop_eq_getElem_cons hi, idxGo]
  by_cases hx : x.toList = l[i].toList
  ·rw [if_pos hx, if_pos hx]
  ·rw [if_neg hx, if_neg hx, show wrap64 ((i : Int) + 1) = ((i + 1 : Nat) : Int) by rw [wrap_ok1 (by omega) (by omega)]; omega, idx_loop l x hl n (i + 1) k (by omega) (by omega)]
   rfl
theorem idx_eq (l : List ByteArray) (x : ByteArray) (hl : l.length ≤ 1000000) : slices_Index_string_string.f (l.length + 1) l x = some (idxGo l x 0) := by
 unfold slices_Index_string_string.f
 exact idx_loop l x hl l.length 0 _ (by omega) (by omega)
theorem idxGo_any (x : ByteArray) : ∀ (l : List ByteArray) (i : Int), 0 ≤ i → decide (idxGo l x i ≥ 0) = l.any (fun y => y.toList == x.toList)
 | [], _, _ => rfl
 | y :: r, i, h => by
  rw [idxGo, List.any_cons]
  by_cases hx : x.toList = y.toList
  ·rw [if_pos hx, decide_eq_true h, show (y.toList == x.toList) = true from beq_iff_eq.2 hx.symm]; rfl
  ·rw [if_neg hx, idxGo_any x r (i + 1) (by omega), show (y.toList == x.toList) = false from beq_eq_false_iff_ne.2 (fun e => hx e.symm)]; rfl
theorem contains_eq (l : List ByteArray) (x : ByteArray) (hl : l.length ≤ 1000000) : slices_Contains_string_string.f (l.length + 1) l x = some (l.any (fun y => y.toList == x.toList)) := by
 unfold slices_Contains_string_string.f
 rw [idx_eq l x hl, Option.bind_some, idxGo_any x l 0 (Int.le_refl _)]
end Go.Proofs.YtadfcdpalcgghaaDoor.Q

-- The parser in memory, and its small functions: walked by hand.
namespace Go.Proofs.YtadfcdpalcgghaaDoor.Q
open Go.RowKit Go.Proofs.YtadfcdpalcgghaaDoorW.PrintWords Go.Proofs.YtadfcdpalcgghaaDoorW.PrintLast Go.Proofs.YtadfcdpalcgghaaDoorW.PrintMore
attribute [local go_sem] max2_int min2_int max_two min_two max_three min_three max_four min_four   -- for this text's walks alone
set_option linter.unusedVariables false
set_option linter.unusedSimpArgs false

def tokC (t : TOK) : Array Value := #[.int .i64 t.f0, .string t.f1, .int .i64 t.f2, .int .i64 t.f3, .int .i64 t.f4]
def prsC (A : Option Addr) (c : Nat) (vts vhs : Value) (p : PS) : Array Value := #[.slice A p.l.length c, .int .i64 p.e, .int .i64 p.ln, .int .i64 p.cl, .int .i64 p.b, vts, .int .i64 p.bt.f0, .string p.bt.f1, .int .i64 p.bt.f2, .int .i64 p.bt.f3, .int .i64 p.bt.f4, vhs]
def PrsX (w0 : World) (ok : Nat → Prop) (W : World) (g : Nat) (A : Option Addr) (c : Nat) (vts vhs : Value) (p : PS) : Prop :=
 W.heap[g]? = some (.cells (prsC A c vts vhs p) 63 (0, 0)) ∧ w0.heap.size ≤ g ∧ p.l.length ≤ c ∧ Kd.C k61 w0 A p.l.length p.l ∧ Kd.R k26 26 W w0.heap.size ok vts p.ts ∧ Kd.R k61 61 W w0.heap.size ok vhs p.hs ∧ Below w0.heap.size w0 W
theorem tok_f1 (a : Int) (b : ByteArray) (c d e : Int) (w : World) : (Instr.field 61 (.agg #[.int .i64 a, .string b, .int .i64 c, .int .i64 d, .int .i64 e]) 1).run Tryd.prog w = .ok (.string b) w := by kernel_rfl
theorem tok_f2 (a : Int) (b : ByteArray) (c d e : Int) (w : World) : (Instr.field 61 (.agg #[.int .i64 a, .string b, .int .i64 c, .int .i64 d, .int .i64 e]) 2).run Tryd.prog w = .ok (.int .i64 c) w := by kernel_rfl
theorem tok_f3 (a : Int) (b : ByteArray) (c d e : Int) (w : World) : (Instr.field 61 (.agg #[.int .i64 a, .string b, .int .i64 c, .int .i64 d, .int .i64 e]) 3).run Tryd.prog w = .ok (.int .i64 d) w := by kernel_rfl
theorem tok_f4 (a : Int) (b : ByteArray) (c d e : Int) (w : World) : (Instr.field 61 (.agg #[.int .i64 a, .string b, .int .i64 c, .int .i64 d, .int .i64 e]) 4).run Tryd.prog w = .ok (.int .i64 e) w := by kernel_rfl
attribute [local go_sem] tok_f1 tok_f2 tok_f3 tok_f4
section
variable {w0 W W' : World} {ok : Nat → Prop} {g : Nat} {A : Option Addr} {c : Nat} {vts vhs : Value} {p : PS}
theorem addr_zero (a : Addr) : a.add 0 = a := by unfold Addr.add; split <;> simp_all
theorem PrsX.below (h : PrsX w0 ok W g A c vts vhs p) (hb : Below W.heap.size W W') : PrsX w0 ok W' g A c vts vhs p :=
 ⟨blk_below h.1 hb, h.2.1, h.2.2.1, h.2.2.2.1, Kd.R_below h.2.2.2.2.1 hb, Kd.R_below h.2.2.2.2.2.1 hb, below_step h.2.2.2.2.2.2 hb⟩
theorem PrsX.out_below (h : PrsX w0 ok W g A c vts vhs p) : Below w0.heap.size w0 W := h.2.2.2.2.2.2
theorem PrsX.put (h : PrsX w0 ok W g A c vts vhs p) (j : Nat) (u : Value) {A' : Option Addr} {c' : Nat} {p' : PS} (hc : (prsC A c vts vhs p).setIfInBounds j u = prsC A' c' vts vhs p') (hl : p'.l.length ≤ c') (hC : Kd.C k61 w0 A' p'.l.length p'.l) (hts : p'.ts = p.ts) (hhs : p'.hs = p.hs) :
  PrsX w0 ok (W.setCell ⟨g, j, none⟩ u) g A' c' vts vhs p' :=
 ⟨by rw [← hc]; exact blk_put h.1 j u rfl, h.2.1, hl, hC, by rw [hts]; exact Kd.R_set h.2.2.2.2.1 h.1 (by decide) j u, by rw [hhs]; exact Kd.R_set h.2.2.2.2.2.1 h.1 (by decide) j u, h.2.2.2.2.2.2.setCell h.2.1 u⟩
theorem PrsX.mono {ok' : Nat → Prop} (h : PrsX w0 ok W g A c vts vhs p) (hs : ∀ k, ok k → ok' k) : PrsX w0 ok' W g A c vts vhs p :=
 ⟨h.1, h.2.1, h.2.2.1, h.2.2.2.1, Kd.R_mono h.2.2.2.2.1 hs, Kd.R_mono h.2.2.2.2.2.1 hs, h.2.2.2.2.2.2⟩
theorem PrsX.bound (h : PrsX w0 ok W g A c vts vhs p) : PrsX w0 (fun k => ok k ∧ k < W.heap.size) W g A c vts vhs p :=
 ⟨h.1, h.2.1, h.2.2.1, h.2.2.2.1, Kd.R_mono (Kd.R_bound h.2.2.2.2.1) (fun k hk => ⟨hk.1, hk.2.2.1⟩), Kd.R_mono (Kd.R_bound h.2.2.2.2.2.1) (fun k hk => ⟨hk.1, hk.2.2.1⟩), h.2.2.2.2.2.2⟩
theorem PrsX.far (h : PrsX w0 ok W g A c vts vhs p) {q : Nat} (hq : q ≠ g) (hok : ∀ k, ok k → k ≠ q) (hw : w0.heap.size ≤ q) (j : Nat) (u : Value) : PrsX w0 ok (W.setCell ⟨q, j, none⟩ u) g A c vts vhs p :=
 ⟨(Below.heap_setCell W ⟨q, j, none⟩ u g (Ne.symm hq)).trans h.1, h.2.1, h.2.2.1, h.2.2.2.1, Kd.R_far h.2.2.2.2.1 hok u, Kd.R_far h.2.2.2.2.2.1 hok u, h.2.2.2.2.2.2.setCell hw u⟩
theorem infoTok : ∃ i, Tryd.prog.info? 61 = some i ∧ i.size = 5 := by
 obtain ⟨i, h1, _, h3, _⟩ := info_parts (show (Tryd.prog.info? 61).map (fun i => (i.zero, i.size, i.bytes)) = some (some (.agg #[.int .i64 0, .string ⟨#[]⟩, .int .i64 0, .int .i64 0, .int .i64 0]), 5, 48) by kernel_rfl)
 exact ⟨i, h1, h3⟩
set_option maxHeartbeats 1000000 in
set_option maxRecDepth 100000 in
theorem now_ask (h : PrsX w0 ok W g A c vts vhs p) (hl : p.l ≠ []) :
  Calls Tryd.prog 28 #[.pointer (some ⟨g, 0, none⟩)] W fun e W' => e = .returned (.agg (tokC p.now)) ∧ Below W.heap.size W W' := by
 have hpos : 0 < p.l.length := List.length_pos_iff.2 hl
 have x0 : W.cell? ⟨g, 0, none⟩ = some (.slice A p.l.length c) := blk_cell h.1 0
 obtain ⟨ad, e, y0, y1, y2, y3, y4⟩ := at_T61 (Kd.C_below h.2.2.2.1 h.out_below) 0 (by omega) (by omega)
 cases e
 have HN : Aside0 (rd_T61 p.l 0 = p.now) := ⟨by unfold PS.now rd_T61; cases hp : p.l with | nil => exact absurd hp hl | cons a r => rfl⟩
 rw [HN.out] at y0 y1 y2 y3 y4
 have HB := Aside0.mk (Below.refl W.heap.size W)
 obtain ⟨t, ht⟩ : ∃ t, p.now = t := ⟨_, rfl⟩
 rw [ht] at y0 y1 y2 y3 y4 ⊢
 obtain ⟨n, hn⟩ : ∃ n, p.l.length = n := ⟨_, rfl⟩
 rw [hn] at x0 hpos
 have p0 : (0 : Int) < (n : Int) := by omega
 simp only [show (0 : Int).toNat * 5 = 0 from rfl, addr_zero] at y0 y1 y2 y3 y4
 have x0' := fun o => pw_cell_below (below_alloc (Below.refl _ W) o) x0
 have y0' := fun o => pw_cell_below (below_alloc (Below.refl _ W) o) y0
 have y1' := fun o => pw_cell_below (below_alloc (Below.refl _ W) o) y1
 have y2' := fun o => pw_cell_below (below_alloc (Below.refl _ W) o) y2
 have y3' := fun o => pw_cell_below (below_alloc (Below.refl _ W) o) y3
 have y4' := fun o => pw_cell_below (below_alloc (Below.refl _ W) o) y4
 clear h hl HN ht hn x0 y0 y1 y2 y3 y4
 go_enter Tryd.func28, Tryd.ntmps28
 go_wp2
 refine bodyPost_ret (results_cell_row rfl _ _ W.heap.size 61 (tokC t) (0, 0) _ rfl (blk_new W _) Tryd.underlying61 rfl (by kernel_rfl)) rfl ?_
 exact ⟨rfl, by repeat (first | exact HB.out | apply below_drew | apply below_alloc)⟩
set_option maxHeartbeats 1000000 in
set_option maxRecDepth 100000 in
theorem fail_ask (h : PrsX w0 ok W g A c vts vhs p) (hl : p.l ≠ []) :
  Calls Tryd.prog 53 #[.pointer (some ⟨g, 0, none⟩)] W fun e W' => e = .returned (.tuple #[]) ∧ PrsX w0 ok W' g A c vts vhs p.fail ∧ Kept W W' (fun k => k = g) := by
 have x1 : W.cell? ⟨g, 1, none⟩ = some (.int .i64 p.e) := blk_cell h.1 1
 have HX := Aside0.mk h
 have HL := Aside0.mk hl
 clear h hl
 by_cases he : p.e = 0
 ·have heq : (p.e == 0) = true := beq_iff_eq.2 he
  have HE := Aside0.mk he
  clear he
  go_enter Tryd.func53, Tryd.ntmps53
  go_wp2_with fail
  refine (now_ask HX.out HL.out).mono ?_
  rintro e wA ⟨rfl, hb⟩
  have HXA := Aside0.mk (HX.out.below hb)
  have HBA := Aside0.mk hb
  unfold tokC
  clear hb x1
  go_wp2_with fail
  refine (now_ask HXA.out HL.out).mono ?_
  rintro e wB ⟨rfl, hb⟩
  have HXB := Aside0.mk (HXA.out.below hb)
  have HBB := Aside0.mk (below_step HBA.out hb)
  have x1 : wB.cell? ⟨g, 1, none⟩ = some (.int .i64 p.e) := blk_cell HXB.out.1 1
  have x2 : wB.cell? ⟨g, 2, none⟩ = some (.int .i64 p.ln) := blk_cell HXB.out.1 2
  have x3 : wB.cell? ⟨g, 3, none⟩ = some (.int .i64 p.cl) := blk_cell HXB.out.1 3
  have f1 := blk_frozen HXB.out.1 1
  have f2 := blk_frozen HXB.out.1 2
  have f3 := blk_frozen HXB.out.1 3
  unfold tokC
  clear hb HXA HBA
  go_wp2_with fail
  first | go_end0 | ((try simp only [Exit.inBlock, Exit.then]); refine bodyPost_ret (results_none rfl _ _ _) rfl ?_)
  have h1 := HXB.out.put 1 (.int .i64 5) (A' := A) (c' := c) (p' := { p with e := 5 }) rfl HXB.out.2.2.1 HXB.out.2.2.2.1 rfl rfl
  have h2 := h1.put 2 (.int .i64 p.now.f3) (A' := A) (c' := c) (p' := { p with e := 5, ln := p.now.f3 }) rfl HXB.out.2.2.1 HXB.out.2.2.2.1 rfl rfl
  have h3 := h2.put 3 (.int .i64 p.now.f4) (A' := A) (c' := c) (p' := { p with e := 5, ln := p.now.f3, cl := p.now.f4 }) rfl HXB.out.2.2.1 HXB.out.2.2.2.1 rfl rfl
  refine ⟨rfl, ?_, (((Kept.of_below HBB.out (fun k => k = g)).setCell (p := ⟨g, 1, none⟩) (.inl rfl) _).setCell (p := ⟨g, 2, none⟩) (.inl rfl) _).setCell (p := ⟨g, 3, none⟩) (.inl rfl) _⟩
  unfold PS.fail
  rw [if_pos HE.out]
  exact h3
 ·have heq : (p.e == 0) = false := beq_eq_false_iff_ne.2 he
  have HE := Aside0.mk he
  clear he
  go_enter Tryd.func53, Tryd.ntmps53
  go_wp2_with fail
  first | go_end0 | ((try simp only [Exit.inBlock, Exit.then]); refine bodyPost_ret (results_none rfl _ _ _) rfl ?_)
  exact ⟨rfl, by unfold PS.fail; rw [if_neg HE.out]; exact HX.out, Kept.refl _ _⟩
set_option maxHeartbeats 2000000 in
set_option maxRecDepth 100000 in
theorem take_ask (h : PrsX w0 ok W g A c vts vhs p) (hl : p.l ≠ []) (kind : Int) (At : Option Addr) (ct : Nat) (texts : List ByteArray) (ht : Kd.C Kd.string W At texts.length texts) (hct : texts.length ≤ ct) (htl : texts.length ≤ 1000000) :
  Calls Tryd.prog 38 #[.pointer (some ⟨g, 0, none⟩), .int .i64 kind, .slice At texts.length ct] W fun e W' => e = .returned (.agg (tokC (p.take kind texts).2)) ∧ (∃ A' c', PrsX w0 ok W' g A' c' vts vhs (p.take kind texts).1) ∧ Kept W W' (fun k => k = g) := by
 obtain ⟨W1, hW1⟩ : ∃ W1, W1 = W.alloc (.cells (tokC z61) 61 (0, 0)) := ⟨_, rfl⟩
 have hb1 : Below W.heap.size W W1 := by rw [hW1]; exact below_alloc (Below.refl _ _) _
 have HX := Aside0.mk (h.bound.below hb1)
 have HWS : Aside0 (w0.heap.size ≤ W.heap.size) := ⟨h.out_below.size⟩
 have HB1 := Aside0.mk hb1
 have HR1 : Aside0 (W1.heap[W.heap.size]? = some (.cells (tokC z61) 61 (0, 0))) := ⟨by rw [hW1]; exact blk_new W _⟩
 have HT := Aside0.mk (Kd.C_below ht hb1)
 have HL := Aside0.mk hl
 have HGL : Aside0 (g < W.heap.size) := ⟨blk_lt h.1⟩
 have HW1 := Aside0.mk hW1
 clear h hl ht hb1 hW1
 go_enter Tryd.func38, Tryd.ntmps38
 go_wp2_with fail
 have hnow := now_ask HX.out HL.out
 rw [HW1.out] at hnow
 refine hnow.mono ?_
 rintro e wA ⟨rfl, hb⟩
 have hb2 : Below W1.heap.size W1 wA := by rw [HW1.out]; exact hb
 obtain ⟨gt, hgt⟩ : ∃ gt, wA.heap.size = gt := ⟨_, rfl⟩
 obtain ⟨wB, hwB⟩ : ∃ wB, wB = wA.alloc (.cells (tokC p.now) 61 (0, 0)) := ⟨_, rfl⟩
 have hb3 : Below W1.heap.size W1 wB := by rw [hwB]; exact below_alloc hb2 _
 have HXB := Aside0.mk (HX.out.below hb3)
 have HRB := Aside0.mk (blk_below HR1.out hb3)
 have HTB := Aside0.mk (Kd.C_below HT.out hb3)
 have HTT : Aside0 (wB.heap[gt]? = some (.cells (tokC p.now) 61 (0, 0))) := ⟨by rw [hwB, ← hgt]; exact blk_new wA _⟩
 have HBB := Aside0.mk (below_step HB1.out hb3)
 have HWB := Aside0.mk hwB
 have HGT : Aside0 (gt ≠ W.heap.size ∧ gt ≠ g) := ⟨by have h1 := hb2.size; have h2 : W1.heap.size = W.heap.size + 1 := (by rw [HW1.out]; simp); have h3 := HGL.out; omega⟩
 clear hnow hb hb2 hb3 hwB HX HR1 HT HB1
 unfold tokC
 unfold tokC at HWB
 have x1 : wB.cell? ⟨g, 1, none⟩ = some (.int .i64 p.e) := blk_cell HXB.out.1 1
 have t0 : wB.cell? ⟨gt, 0, none⟩ = some (.int .i64 p.now.f0) := blk_cell HTT.out 0
 have t1 : wB.cell? ⟨gt, 1, none⟩ = some (.string p.now.f1) := blk_cell HTT.out 1
 rw [HWB.out] at x1 t0 t1
 by_cases he : p.e = 0
 ·rw [he] at x1
  have HE := Aside0.mk he
  clear he
  by_cases hk : p.now.f0 = kind
  ·subst hk
   by_cases hte : texts.length = 0
   ·have HTK : Aside0 (p.fits p.now.f0 texts = true) := ⟨by unfold PS.fits; rw [HE.out, List.eq_nil_of_length_eq_zero hte]; simp⟩
    have x0 : wB.cell? ⟨g, 0, none⟩ = some (.slice A p.l.length c) := blk_cell HXB.out.1 0
    have g0 := blk_frozen HXB.out.1 0
    have hpos : 1 ≤ p.l.length := List.length_pos_iff.2 HL.out
    obtain ⟨iT, hiT, hsT⟩ := infoTok
    have hcut := cut_from (P := Tryd.prog) 56 61 .i64 Tryd.underlying56 hiT 5 hsT A p.l.length c (1 : Int) (by omega) (by omega)
    simp only [show (1 : Int).toNat = 1 from rfl, Nat.one_mul] at hcut
    obtain ⟨A4, hA4⟩ : ∃ A4, (if c = 1 then A else A.map (·.add 5)) = A4 := ⟨_, rfl⟩
    rw [hA4] at hcut
    have HCT : Aside0 (Kd.C k61 w0 A4 p.l.tail.length p.l.tail) := ⟨by
     have h := Kd.C_drop (c := c) HXB.out.2.2.2.1 hpos HXB.out.2.2.1
     rw [List.drop_one] at h
     have e1 : (if c = 1 then A else A.map (·.add (1 * (k61).sz))) = A4 := hA4
     rwa [e1] at h⟩
    have r0 : wB.cell? ⟨W.heap.size, 0, none⟩ = some (.int .i64 0) := blk_cell HRB.out 0
    have r1 : wB.cell? ⟨W.heap.size, 1, none⟩ = some (.string ⟨#[]⟩) := blk_cell HRB.out 1
    have r2 : wB.cell? ⟨W.heap.size, 2, none⟩ = some (.int .i64 0) := blk_cell HRB.out 2
    have r3 : wB.cell? ⟨W.heap.size, 3, none⟩ = some (.int .i64 0) := blk_cell HRB.out 3
    have r4 : wB.cell? ⟨W.heap.size, 4, none⟩ = some (.int .i64 0) := blk_cell HRB.out 4
    have f0 := blk_frozen HRB.out 0
    have f1 := blk_frozen HRB.out 1
    have f2 := blk_frozen HRB.out 2
    have f3 := blk_frozen HRB.out 3
    have f4 := blk_frozen HRB.out 4
    have t2 : wB.cell? ⟨gt, 2, none⟩ = some (.int .i64 p.now.f2) := blk_cell HTT.out 2
    have t3 : wB.cell? ⟨gt, 3, none⟩ = some (.int .i64 p.now.f3) := blk_cell HTT.out 3
    have t4 : wB.cell? ⟨gt, 4, none⟩ = some (.int .i64 p.now.f4) := blk_cell HTT.out 4
    have n1 : gt ≠ g := HGT.out.2
    have n2 : W.heap.size ≠ g := by have := HGL.out; omega
    clear hA4 hpos
    rw [HWB.out] at x0 g0 r0 r1 r2 r3 r4 f0 f1 f2 f3 f4 t2 t3 t4
    go_wp2_with fail
    rw [← HWB.out]
    refine bodyPost_ret (results_cell_row rfl _ _ W.heap.size 61 (tokC p.now) (0, 0) _ rfl (blk_put (blk_put (blk_put (blk_put (blk_put ((Below.heap_setCell wB ⟨g, 0, none⟩ _ W.heap.size n2).trans HRB.out) 0 _ rfl) 1 _ rfl) 2 _ rfl) 3 _ rfl) 4 _ rfl) Tryd.underlying61 rfl (by kernel_rfl)) rfl ?_
    have hok : ∀ k, (ok k ∧ k < W.heap.size) → k ≠ W.heap.size := fun k hk => by have := hk.2; omega
    have hX1 := HXB.out.put 0 (.slice A4 (p.l.length - 1) (c - 1)) (A' := A4) (c' := c - 1) (p' := { p with l := p.l.tail }) (by unfold prsC; simp) (by have := HXB.out.2.2.1; simp; omega) HCT.out rfl rfl
    refine ⟨by unfold PS.take; rw [if_pos HTK.out], ⟨A4, c - 1, ?_⟩, ?_⟩
    ·unfold PS.take; rw [if_pos HTK.out]
     exact (((((hX1.far n2 hok HWS.out 0 _).far n2 hok HWS.out 1 _).far n2 hok HWS.out 2 _).far n2 hok HWS.out 3 _).far n2 hok HWS.out 4 _).mono (fun k hk => hk.1)
    ·exact (((((((Kept.of_below HBB.out (fun k => k = g)).setCell (p := ⟨g, 0, none⟩) (.inl rfl) _).setCell (p := ⟨W.heap.size, 0, none⟩) (.inr (Nat.le_refl _)) _).setCell (p := ⟨W.heap.size, 1, none⟩) (.inr (Nat.le_refl _)) _).setCell (p := ⟨W.heap.size, 2, none⟩) (.inr (Nat.le_refl _)) _).setCell (p := ⟨W.heap.size, 3, none⟩) (.inr (Nat.le_refl _)) _).setCell (p := ⟨W.heap.size, 4, none⟩) (.inr (Nat.le_refl _)) _)
   ·have hlp : 0 < texts.length := Nat.pos_of_ne_zero hte
    have HHT := Aside0.mk hte
    have hle : decide ((texts.length : Int) > 0) = true := by simp; omega
    obtain ⟨bc, hbc⟩ : ∃ bc, texts.any (fun y => y.toList == p.now.f1.toList) = bc := ⟨_, rfl⟩
    have HBC := Aside0.mk hbc
    have htb := HTB.out
    rw [HWB.out] at htb
    have HTC := Aside0.mk htb
    clear hbc htb hte
    go_wp2_with fail
    refine (slices_Contains_string_string.calls (texts.length + 1) At ct texts p.now.f1 bc _ HTC.out hct (by rw [contains_eq texts p.now.f1 htl, HBC.out])).mono ?_
    rintro e wC ⟨rfl, hd⟩
    have hb := hd.below
    rw [← HWB.out] at hb
    have HXC := Aside0.mk (HXB.out.below hb)
    have HRC := Aside0.mk (blk_below HRB.out hb)
    have HTTC := Aside0.mk (blk_below HTT.out hb)
    have HBBC := Aside0.mk (below_step HBB.out hb)
    clear hd hb HXB HRB HTT HBB x1 t0 t1 HTB HTC
    have HXB := HXC
    have HRB := HRC
    have HTT := HTTC
    have HBB := HBBC
    clear HXC HRC HTTC HBBC
    cases bc with
    | true =>
     have HTK : Aside0 (p.fits p.now.f0 texts = true) := ⟨by unfold PS.fits; rw [HE.out, HBC.out]; simp⟩
     have x0 : wC.cell? ⟨g, 0, none⟩ = some (.slice A p.l.length c) := blk_cell HXB.out.1 0
     have g0 := blk_frozen HXB.out.1 0
     have hpos : 1 ≤ p.l.length := List.length_pos_iff.2 HL.out
     obtain ⟨iT, hiT, hsT⟩ := infoTok
     have hcut := cut_from (P := Tryd.prog) 56 61 .i64 Tryd.underlying56 hiT 5 hsT A p.l.length c (1 : Int) (by omega) (by omega)
     simp only [show (1 : Int).toNat = 1 from rfl, Nat.one_mul] at hcut
     obtain ⟨A4, hA4⟩ : ∃ A4, (if c = 1 then A else A.map (·.add 5)) = A4 := ⟨_, rfl⟩
     rw [hA4] at hcut
     have HCT : Aside0 (Kd.C k61 w0 A4 p.l.tail.length p.l.tail) := ⟨by
      have h := Kd.C_drop (c := c) HXB.out.2.2.2.1 hpos HXB.out.2.2.1
      rw [List.drop_one] at h
      have e1 : (if c = 1 then A else A.map (·.add (1 * (k61).sz))) = A4 := hA4
      rwa [e1] at h⟩
     have r0 : wC.cell? ⟨W.heap.size, 0, none⟩ = some (.int .i64 0) := blk_cell HRB.out 0
     have r1 : wC.cell? ⟨W.heap.size, 1, none⟩ = some (.string ⟨#[]⟩) := blk_cell HRB.out 1
     have r2 : wC.cell? ⟨W.heap.size, 2, none⟩ = some (.int .i64 0) := blk_cell HRB.out 2
     have r3 : wC.cell? ⟨W.heap.size, 3, none⟩ = some (.int .i64 0) := blk_cell HRB.out 3
     have r4 : wC.cell? ⟨W.heap.size, 4, none⟩ = some (.int .i64 0) := blk_cell HRB.out 4
     have f0 := blk_frozen HRB.out 0
     have f1 := blk_frozen HRB.out 1
     have f2 := blk_frozen HRB.out 2
     have f3 := blk_frozen HRB.out 3
     have f4 := blk_frozen HRB.out 4
     have t0 : wC.cell? ⟨gt, 0, none⟩ = some (.int .i64 p.now.f0) := blk_cell HTT.out 0
     have t1 : wC.cell? ⟨gt, 1, none⟩ = some (.string p.now.f1) := blk_cell HTT.out 1
     have t2 : wC.cell? ⟨gt, 2, none⟩ = some (.int .i64 p.now.f2) := blk_cell HTT.out 2
     have t3 : wC.cell? ⟨gt, 3, none⟩ = some (.int .i64 p.now.f3) := blk_cell HTT.out 3
     have t4 : wC.cell? ⟨gt, 4, none⟩ = some (.int .i64 p.now.f4) := blk_cell HTT.out 4
     have n1 : gt ≠ g := HGT.out.2
     have n2 : W.heap.size ≠ g := by have := HGL.out; omega
     clear hA4 hpos
     go_wp2_with fail
     refine bodyPost_ret (results_cell_row rfl _ _ W.heap.size 61 (tokC p.now) (0, 0) _ rfl (blk_put (blk_put (blk_put (blk_put (blk_put ((Below.heap_setCell wC ⟨g, 0, none⟩ _ W.heap.size n2).trans HRB.out) 0 _ rfl) 1 _ rfl) 2 _ rfl) 3 _ rfl) 4 _ rfl) Tryd.underlying61 rfl (by kernel_rfl)) rfl ?_
     have hok : ∀ k, (ok k ∧ k < W.heap.size) → k ≠ W.heap.size := fun k hk => by have := hk.2; omega
     have hX1 := HXB.out.put 0 (.slice A4 (p.l.length - 1) (c - 1)) (A' := A4) (c' := c - 1) (p' := { p with l := p.l.tail }) (by unfold prsC; simp) (by have := HXB.out.2.2.1; simp; omega) HCT.out rfl rfl
     refine ⟨by unfold PS.take; rw [if_pos HTK.out], ⟨A4, c - 1, ?_⟩, ?_⟩
     ·unfold PS.take; rw [if_pos HTK.out]
      exact (((((hX1.far n2 hok HWS.out 0 _).far n2 hok HWS.out 1 _).far n2 hok HWS.out 2 _).far n2 hok HWS.out 3 _).far n2 hok HWS.out 4 _).mono (fun k hk => hk.1)
     ·exact (((((((Kept.of_below HBB.out (fun k => k = g)).setCell (p := ⟨g, 0, none⟩) (.inl rfl) _).setCell (p := ⟨W.heap.size, 0, none⟩) (.inr (Nat.le_refl _)) _).setCell (p := ⟨W.heap.size, 1, none⟩) (.inr (Nat.le_refl _)) _).setCell (p := ⟨W.heap.size, 2, none⟩) (.inr (Nat.le_refl _)) _).setCell (p := ⟨W.heap.size, 3, none⟩) (.inr (Nat.le_refl _)) _).setCell (p := ⟨W.heap.size, 4, none⟩) (.inr (Nat.le_refl _)) _)
    | false =>
     have HTK : Aside0 (p.fits p.now.f0 texts = false) := ⟨by unfold PS.fits; rw [HE.out, HBC.out]; cases ht0 : texts with | nil => exact absurd (by rw [ht0]; rfl) HHT.out | cons a r => simp⟩
     go_wp2_with fail
     refine (fail_ask HXB.out HL.out).mono ?_
     rintro e wF ⟨rfl, hX, hk⟩
     have HXF := Aside0.mk hX
     have HKF : Aside0 (Kept W wF (fun k => k = g)) := ⟨⟨Nat.le_trans HBB.out.size hk.1, fun i hi hn => (hk.2 i (Nat.lt_of_lt_of_le hi HBB.out.size) hn).trans ((Kept.of_below HBB.out (fun k => k = g)).2 i hi hn)⟩⟩
     have HRF := Aside0.mk (blk_kept HRB.out hk (by have := HGL.out; omega))
     have r0 : wF.cell? ⟨W.heap.size, 0, none⟩ = some (.int .i64 0) := blk_cell HRF.out 0
     have r1 : wF.cell? ⟨W.heap.size, 1, none⟩ = some (.string ⟨#[]⟩) := blk_cell HRF.out 1
     have r2 : wF.cell? ⟨W.heap.size, 2, none⟩ = some (.int .i64 0) := blk_cell HRF.out 2
     have r3 : wF.cell? ⟨W.heap.size, 3, none⟩ = some (.int .i64 0) := blk_cell HRF.out 3
     have r4 : wF.cell? ⟨W.heap.size, 4, none⟩ = some (.int .i64 0) := blk_cell HRF.out 4
     have f0 := blk_frozen HRF.out 0
     have f1 := blk_frozen HRF.out 1
     have f2 := blk_frozen HRF.out 2
     have f3 := blk_frozen HRF.out 3
     have f4 := blk_frozen HRF.out 4
     clear hX hk
     go_wp2_with fail
     refine bodyPost_ret (results_cell_row rfl _ _ W.heap.size 61 (tokC z61) (0, 0) _ rfl (blk_put (blk_put (blk_put (blk_put (blk_put HRF.out 0 _ rfl) 1 _ rfl) 2 _ rfl) 3 _ rfl) 4 _ rfl) Tryd.underlying61 rfl (by kernel_rfl)) rfl ?_
     have hqg : W.heap.size ≠ g := by have := HGL.out; omega
     have hok : ∀ k, (ok k ∧ k < W.heap.size) → k ≠ W.heap.size := fun k hk => by have := hk.2; omega
     refine ⟨by unfold PS.take; rw [if_neg (by rw [HTK.out]; decide)], ⟨A, c, ?_⟩, ?_⟩
     ·unfold PS.take; rw [if_neg (by rw [HTK.out]; decide)]
      exact (((((HXF.out.far hqg hok HWS.out 0 _).far hqg hok HWS.out 1 _).far hqg hok HWS.out 2 _).far hqg hok HWS.out 3 _).far hqg hok HWS.out 4 _).mono (fun k hk => hk.1)
     ·exact ((((HKF.out.setCell (p := ⟨W.heap.size, 0, none⟩) (.inr (Nat.le_refl _)) _).setCell (p := ⟨W.heap.size, 1, none⟩) (.inr (Nat.le_refl _)) _).setCell (p := ⟨W.heap.size, 2, none⟩) (.inr (Nat.le_refl _)) _).setCell (p := ⟨W.heap.size, 3, none⟩) (.inr (Nat.le_refl _)) _).setCell (p := ⟨W.heap.size, 4, none⟩) (.inr (Nat.le_refl _)) _
  ·have hnk : (p.now.f0 == kind) = false := beq_eq_false_iff_ne.2 hk
   have HTK : Aside0 (p.fits kind texts = false) := ⟨by unfold PS.fits; rw [hnk]; simp⟩
   go_wp2_with fail
   rw [← HWB.out]
   refine (fail_ask HXB.out HL.out).mono ?_
   rintro e wF ⟨rfl, hX, hk⟩
   have HXF := Aside0.mk hX
   have HKF : Aside0 (Kept W wF (fun k => k = g)) := ⟨⟨Nat.le_trans HBB.out.size hk.1, fun i hi hn => (hk.2 i (Nat.lt_of_lt_of_le hi HBB.out.size) hn).trans ((Kept.of_below HBB.out (fun k => k = g)).2 i hi hn)⟩⟩
   have HRF := Aside0.mk (blk_kept HRB.out hk (by have := HGL.out; omega))
   have r0 : wF.cell? ⟨W.heap.size, 0, none⟩ = some (.int .i64 0) := blk_cell HRF.out 0
   have r1 : wF.cell? ⟨W.heap.size, 1, none⟩ = some (.string ⟨#[]⟩) := blk_cell HRF.out 1
   have r2 : wF.cell? ⟨W.heap.size, 2, none⟩ = some (.int .i64 0) := blk_cell HRF.out 2
   have r3 : wF.cell? ⟨W.heap.size, 3, none⟩ = some (.int .i64 0) := blk_cell HRF.out 3
   have r4 : wF.cell? ⟨W.heap.size, 4, none⟩ = some (.int .i64 0) := blk_cell HRF.out 4
   have f0 := blk_frozen HRF.out 0
   have f1 := blk_frozen HRF.out 1
   have f2 := blk_frozen HRF.out 2
   have f3 := blk_frozen HRF.out 3
   have f4 := blk_frozen HRF.out 4
   clear hX hk
   go_wp2_with fail
   refine bodyPost_ret (results_cell_row rfl _ _ W.heap.size 61 (tokC z61) (0, 0) _ rfl (blk_put (blk_put (blk_put (blk_put (blk_put HRF.out 0 _ rfl) 1 _ rfl) 2 _ rfl) 3 _ rfl) 4 _ rfl) Tryd.underlying61 rfl (by kernel_rfl)) rfl ?_
   have hqg : W.heap.size ≠ g := by have := HGL.out; omega
   have hok : ∀ k, (ok k ∧ k < W.heap.size) → k ≠ W.heap.size := fun k hk => by have := hk.2; omega
   refine ⟨by unfold PS.take; rw [if_neg (by rw [HTK.out]; decide)], ⟨A, c, ?_⟩, ?_⟩
   ·unfold PS.take; rw [if_neg (by rw [HTK.out]; decide)]
    exact (((((HXF.out.far hqg hok HWS.out 0 _).far hqg hok HWS.out 1 _).far hqg hok HWS.out 2 _).far hqg hok HWS.out 3 _).far hqg hok HWS.out 4 _).mono (fun k hk => hk.1)
   ·exact ((((HKF.out.setCell (p := ⟨W.heap.size, 0, none⟩) (.inr (Nat.le_refl _)) _).setCell (p := ⟨W.heap.size, 1, none⟩) (.inr (Nat.le_refl _)) _).setCell (p := ⟨W.heap.size, 2, none⟩) (.inr (Nat.le_refl _)) _).setCell (p := ⟨W.heap.size, 3, none⟩) (.inr (Nat.le_refl _)) _).setCell (p := ⟨W.heap.size, 4, none⟩) (.inr (Nat.le_refl _)) _
 ·have hne : (p.e == 0) = false := beq_eq_false_iff_ne.2 he
  have HTK : Aside0 (p.fits kind texts = false) := ⟨by unfold PS.fits; rw [hne]; simp⟩
  go_wp2_with fail
  rw [← HWB.out]
  refine (fail_ask HXB.out HL.out).mono ?_
  rintro e wF ⟨rfl, hX, hk⟩
  have HXF := Aside0.mk hX
  have HKF : Aside0 (Kept W wF (fun k => k = g)) := ⟨⟨Nat.le_trans HBB.out.size hk.1, fun i hi hn => (hk.2 i (Nat.lt_of_lt_of_le hi HBB.out.size) hn).trans ((Kept.of_below HBB.out (fun k => k = g)).2 i hi hn)⟩⟩
  have HRF := Aside0.mk (blk_kept HRB.out hk (by have := HGL.out; omega))
  have r0 : wF.cell? ⟨W.heap.size, 0, none⟩ = some (.int .i64 0) := blk_cell HRF.out 0
  have r1 : wF.cell? ⟨W.heap.size, 1, none⟩ = some (.string ⟨#[]⟩) := blk_cell HRF.out 1
  have r2 : wF.cell? ⟨W.heap.size, 2, none⟩ = some (.int .i64 0) := blk_cell HRF.out 2
  have r3 : wF.cell? ⟨W.heap.size, 3, none⟩ = some (.int .i64 0) := blk_cell HRF.out 3
  have r4 : wF.cell? ⟨W.heap.size, 4, none⟩ = some (.int .i64 0) := blk_cell HRF.out 4
  have f0 := blk_frozen HRF.out 0
  have f1 := blk_frozen HRF.out 1
  have f2 := blk_frozen HRF.out 2
  have f3 := blk_frozen HRF.out 3
  have f4 := blk_frozen HRF.out 4
  clear hX hk
  go_wp2_with fail
  refine bodyPost_ret (results_cell_row rfl _ _ W.heap.size 61 (tokC z61) (0, 0) _ rfl (blk_put (blk_put (blk_put (blk_put (blk_put HRF.out 0 _ rfl) 1 _ rfl) 2 _ rfl) 3 _ rfl) 4 _ rfl) Tryd.underlying61 rfl (by kernel_rfl)) rfl ?_
  have hqg : W.heap.size ≠ g := by have := HGL.out; omega
  have hok : ∀ k, (ok k ∧ k < W.heap.size) → k ≠ W.heap.size := fun k hk => by have := hk.2; omega
  refine ⟨by unfold PS.take; rw [if_neg (by rw [HTK.out]; decide)], ⟨A, c, ?_⟩, ?_⟩
  ·unfold PS.take; rw [if_neg (by rw [HTK.out]; decide)]
   exact (((((HXF.out.far hqg hok HWS.out 0 _).far hqg hok HWS.out 1 _).far hqg hok HWS.out 2 _).far hqg hok HWS.out 3 _).far hqg hok HWS.out 4 _).mono (fun k hk => hk.1)
  ·exact ((((HKF.out.setCell (p := ⟨W.heap.size, 0, none⟩) (.inr (Nat.le_refl _)) _).setCell (p := ⟨W.heap.size, 1, none⟩) (.inr (Nat.le_refl _)) _).setCell (p := ⟨W.heap.size, 2, none⟩) (.inr (Nat.le_refl _)) _).setCell (p := ⟨W.heap.size, 3, none⟩) (.inr (Nat.le_refl _)) _).setCell (p := ⟨W.heap.size, 4, none⟩) (.inr (Nat.le_refl _)) _
end
end Go.Proofs.YtadfcdpalcgghaaDoor.Q

-- The parser's line ends, blank lines, numbers and modes: walked by hand.
namespace Go.Proofs.YtadfcdpalcgghaaDoor.Q
open Go.RowKit Go.Proofs.YtadfcdpalcgghaaDoorW.PrintWords Go.Proofs.YtadfcdpalcgghaaDoorW.PrintLast Go.Proofs.YtadfcdpalcgghaaDoorW.PrintMore
attribute [local go_sem] max2_int min2_int max_two min_two max_three min_three max_four min_four   -- for this text's walks alone
set_option linter.unusedVariables false
set_option linter.unusedSimpArgs false

attribute [local go_sem] tok_f1 tok_f2 tok_f3 tok_f4
theorem tok_f0 (a : Int) (b : ByteArray) (c d e : Int) (w : World) : (Instr.field 61 (.agg #[.int .i64 a, .string b, .int .i64 c, .int .i64 d, .int .i64 e]) 0).run Tryd.prog w = .ok (.int .i64 a) w := by kernel_rfl
attribute [local go_sem] tok_f0
/-- The last token is the text's end. -/
def Ends (l : List TOK) : Prop := ∃ r t, l = r ++ [t] ∧ t.f0 = 4
theorem Ends.ne {l : List TOK} (h : Ends l) : l ≠ [] := by
 obtain ⟨r, t, rfl, _⟩ := h
 simp
theorem Ends.tail {l : List TOK} (h : Ends l) (hn : (l.headD z61).f0 ≠ 4) : Ends l.tail := by
 obtain ⟨r, t, rfl, ht⟩ := h
 cases r with
 | nil => exact absurd ht (by simpa using hn)
 | cons a r => exact ⟨r, t, rfl, ht⟩
theorem take_ends {p : PS} (h : Ends p.l) (kind : Int) (hk : kind ≠ 4) (texts : List ByteArray) : Ends (p.take kind texts).1.l := by
 unfold PS.take
 by_cases hf : p.fits kind texts = true
 ·rw [if_pos hf]
  have : p.now.f0 = kind := by unfold PS.fits at hf; simp at hf; exact hf.1.2
  exact h.tail (by rw [show p.l.headD z61 = p.now from rfl, this]; exact hk)
 ·rw [if_neg hf]
  unfold PS.fail
  split <;> exact h
theorem kept_trans {W W1 W2 : World} {S : Nat → Prop} (h1 : Kept W W1 S) (h2 : Kept W1 W2 S) : Kept W W2 S := ⟨Nat.le_trans h1.1 h2.1, fun i hi hn => (h2.2 i (Nat.lt_of_lt_of_le hi h1.1) hn).trans (h1.2 i hi hn)⟩
theorem kept_mono {W W1 : World} {S S' : Nat → Prop} (h : Kept W W1 S) (hs : ∀ k, S k → S' k) : Kept W W1 S' := ⟨h.1, fun i hi hn => h.2 i hi (fun h => hn (hs i h))⟩
section
variable {w0 W W' : World} {ok : Nat → Prop} {g : Nat} {A : Option Addr} {c : Nat} {vts vhs : Value} {p : PS}
theorem fin_ends (h : Ends p.l) : Ends p.fin.l := by
 unfold PS.fin
 split
 ·exact h
 ·exact take_ends h 3 (by omega) []
set_option maxHeartbeats 1000000 in
set_option maxRecDepth 100000 in
theorem fin_ask (h : PrsX w0 ok W g A c vts vhs p) (hl : Ends p.l) :
  Calls Tryd.prog 40 #[.pointer (some ⟨g, 0, none⟩)] W fun e W' => e = .returned (.tuple #[]) ∧ (∃ A' c', PrsX w0 ok W' g A' c' vts vhs p.fin) ∧ Kept W W' (fun k => k = g) := by
 have x1 : W.cell? ⟨g, 1, none⟩ = some (.int .i64 p.e) := blk_cell h.1 1
 have HX := Aside0.mk h
 have HL := Aside0.mk hl
 have HTK := fun (W1 : World) (h1 : PrsX w0 ok W1 g A c vts vhs p) => take_ask h1 hl.ne 3 none 0 [] (Kd.C_nil _ _) (Nat.le_refl _) (Nat.zero_le _)
 have HTT := Aside0.mk HTK
 clear h hl HTK
 by_cases he : p.e = 0
 ·rw [he] at x1
  have HE := Aside0.mk he
  clear he
  go_enter Tryd.func40, Tryd.ntmps40
  go_wp2_with fail
  refine (now_ask HX.out HL.out.ne).mono ?_
  rintro e wA ⟨rfl, hb⟩
  have HXA := Aside0.mk (HX.out.below hb)
  have HBA := Aside0.mk hb
  unfold tokC
  clear hb x1
  by_cases h4 : p.now.f0 = 4
  ·have h4b : (p.now.f0 == 4) = true := beq_iff_eq.2 h4
   have H4 := Aside0.mk h4
   clear h4
   go_wp2_with fail
   first | go_end0 | ((try simp only [Exit.inBlock, Exit.then]); refine bodyPost_ret (results_none rfl _ _ _) rfl ?_)
   exact ⟨rfl, ⟨A, c, by unfold PS.fin; rw [if_pos ⟨HE.out, H4.out⟩]; exact HXA.out⟩, Kept.of_below HBA.out _⟩
  ·have h4b : (p.now.f0 == 4) = false := beq_eq_false_iff_ne.2 h4
   go_wp2_with fail
   refine (HTT.out wA HXA.out).mono ?_
   rintro e wB ⟨rfl, hX, hk⟩
   have HXB := Aside0.mk hX
   have HKB := Aside0.mk (kept_trans (Kept.of_below HBA.out (fun k => k = g)) hk)
   have H4 := Aside0.mk h4
   clear hX hk
   go_wp2_with fail
   first | go_end0 | ((try simp only [Exit.inBlock, Exit.then]); refine bodyPost_ret (results_none rfl _ _ _) rfl ?_)
   refine ⟨rfl, ?_, HKB.out⟩
   unfold PS.fin; rw [if_neg (fun h => H4.out h.2)]; exact HXB.out
 ·have hne : (p.e == 0) = false := beq_eq_false_iff_ne.2 he
  go_enter Tryd.func40, Tryd.ntmps40
  go_wp2_with fail
  refine (HTT.out W HX.out).mono ?_
  rintro e wB ⟨rfl, hX, hk⟩
  have HXB := Aside0.mk hX
  have HKB := Aside0.mk hk
  have HE := Aside0.mk he
  clear hX hk
  go_wp2_with fail
  first | go_end0 | ((try simp only [Exit.inBlock, Exit.then]); refine bodyPost_ret (results_none rfl _ _ _) rfl ?_)
  refine ⟨rfl, ?_, HKB.out⟩
  unfold PS.fin; rw [if_neg (fun h => HE.out h.1)]; exact HXB.out
set_option maxHeartbeats 1000000 in
set_option maxRecDepth 100000 in
theorem blank_ask (h : PrsX w0 ok W g A c vts vhs p) (hl : Ends p.l) :
  Calls Tryd.prog 26 #[.pointer (some ⟨g, 0, none⟩)] W fun e W' => e = .returned (.tuple #[]) ∧ (∃ A' c', PrsX w0 ok W' g A' c' vts vhs p.blank) ∧ Ends p.blank.l ∧ Kept W W' (fun k => k = g) := by
 have HX := Aside0.mk h
 have HL := Aside0.mk hl
 clear h hl
 go_enter Tryd.func26, Tryd.ntmps26
 go_wp2
 go_loopg [] p.l.length (fun kq wr => ∃ (A1 : Option Addr) (c1 : Nat) (l1 : List TOK), Aside0 (kq = l1.length) ∧ Aside0 (PrsX w0 ok wr g A1 c1 vts vhs { p with l := l1 }) ∧ Aside0 (Ends l1) ∧ Aside0 (l1.dropWhile (fun t => t.f0 == 3) = p.l.dropWhile (fun t => t.f0 == 3)) ∧ Aside0 (Kept W wr (fun k => k = g)))
 case atStart => exact ⟨A, c, p.l, ⟨rfl⟩, HX, HL, ⟨rfl⟩, ⟨Kept.refl _ _⟩⟩
 case round =>
  clear HX HL
  obtain ⟨A1, c1, l1, HN, HX, HL, HD, HK⟩ := hrel
  obtain ⟨t, r, hlr⟩ : ∃ t r, l1 = t :: r := by
   cases hl1 : l1 with
   | nil => exact absurd hl1 HL.out.ne
   | cons t r => exact ⟨t, r, rfl⟩
  subst hlr
  go_wp2_with fail
  refine (now_ask HX.out HL.out.ne).mono ?_
  rintro e wA ⟨rfl, hb⟩
  have HXA := Aside0.mk (HX.out.below hb)
  have HKA := Aside0.mk (kept_trans HK.out (Kept.of_below hb (fun k => k = g)))
  rw [show ({ p with l := t :: r } : PS).now = t from rfl]
  unfold tokC
  clear hb HX HK
  by_cases h3 : t.f0 = 3
  ·have h3b : (t.f0 == 3) = true := beq_iff_eq.2 h3
   have H3 := Aside0.mk h3
   have x0 : wA.cell? ⟨g, 0, none⟩ = some (.slice A1 (r.length + 1) c1) := blk_cell HXA.out.1 0
   have g0 := blk_frozen HXA.out.1 0
   obtain ⟨iT, hiT, hsT⟩ := infoTok
   have hcut := cut_from (P := Tryd.prog) 56 61 .i64 Tryd.underlying56 hiT 5 hsT A1 (r.length + 1) c1 (1 : Int) (by omega) (by omega)
   simp only [show (1 : Int).toNat = 1 from rfl, Nat.one_mul, Nat.add_sub_cancel] at hcut
   obtain ⟨A4, hA4⟩ : ∃ A4, (if c1 = 1 then A1 else A1.map (·.add 5)) = A4 := ⟨_, rfl⟩
   rw [hA4] at hcut
   have HCT : Aside0 (Kd.C k61 w0 A4 r.length r) := ⟨by
    have h := Kd.C_drop (c := c1) (m := 1) HXA.out.2.2.2.1 (by simp) HXA.out.2.2.1
    have e1 : (if c1 = 1 then A1 else A1.map (·.add (1 * (k61).sz))) = A4 := hA4
    rw [e1] at h
    exact h⟩
   clear hA4 h3
   go_wp2_with fail
   go_roundg r.length
   case measure => have := HN.out; simp at this; omega
   case rel =>
    refine ⟨A4, c1 - 1, r, ⟨rfl⟩, ⟨HXA.out.put 0 (.slice A4 r.length (c1 - 1)) (A' := A4) (c' := c1 - 1) (p' := { p with l := r }) rfl (by have := HXA.out.2.2.1; simp at this; show r.length ≤ c1 - 1; omega) HCT.out rfl rfl⟩, ⟨HL.out.tail (by rw [show (t :: r).headD z61 = t from rfl, H3.out]; omega)⟩, ⟨by rw [← HD.out, List.dropWhile_cons, if_pos (by rw [H3.out]; rfl)]⟩, ⟨HKA.out.setCell (p := ⟨g, 0, none⟩) (.inl rfl) _⟩⟩
  ·have h3b : (t.f0 == 3) = false := beq_eq_false_iff_ne.2 h3
   have HB : Aside0 (p.blank = { p with l := t :: r }) := ⟨by unfold PS.blank; rw [← HD.out, List.dropWhile_cons, if_neg (by rw [h3b]; decide)]⟩
   go_wp2_with fail
   first | go_end0 | ((try simp only [Exit.inBlock, Exit.then]); refine bodyPost_ret (results_none rfl _ _ _) rfl ?_)
   rw [HB.out]
   exact ⟨rfl, ⟨A1, c1, HXA.out⟩, HL.out, HKA.out⟩
theorem idx_modes (s : ByteArray) : idxGo [⟨#[]⟩, wRetry, wBlock, wBackup] s 0 = if s = ⟨#[]⟩ then 0 else if modeOf s = 0 then -1 else modeOf s := by
 have he : ∀ y : ByteArray, (s.toList = y.toList) ↔ s = y := fun y => by
  constructor
  ·intro h
   rw [Lib.toList_data, Lib.toList_data] at h
   cases s with | mk x => cases y with | mk z =>
   simp only at h
   rw [Array.toList_inj.1 h]
  ·rintro rfl; rfl
 simp only [idxGo, he]
 unfold modeOf
 by_cases h0 : s = ⟨#[]⟩
 ·rw [if_pos h0, if_pos h0]
 ·rw [if_neg h0, if_neg h0]
  by_cases h1 : s = wRetry
  ·simp [h1]
  ·by_cases h2 : s = wBlock
   ·have e1 : ¬ wBlock = wRetry := fun e => h1 (h2.trans e)
    simp [h2, e1]
   ·by_cases h3 : s = wBackup
    ·have e1 : ¬ wBackup = wRetry := fun e => h1 (h3.trans e)
     have e2 : ¬ wBackup = wBlock := fun e => h2 (h3.trans e)
     simp [h3, e1, e2]
    ·simp [h1, h2, h3]
theorem modes_C (W : World) : Kd.C Kd.string (W.alloc (.cells #[.string ⟨#[]⟩, .string wRetry, .string wBlock, .string wBackup] 9 (0, 0))) (some ⟨W.heap.size, 0, none⟩) 4 [⟨#[]⟩, wRetry, wBlock, wBackup] := by
 refine ⟨rfl, by omega, fun _ => ⟨_, rfl, fun j q hj => ⟨[.string q], rfl, rfl, fun i u hu => ?_⟩⟩⟩
 obtain ⟨rfl, rfl⟩ : i = 0 ∧ u = .string q := by
  cases i with
  | zero => exact ⟨rfl, by simpa using hu.symm⟩
  | succ i => simp at hu
 have hb := blk_cell (blk_new W (.cells #[.string ⟨#[]⟩, .string wRetry, .string wBlock, .string wBackup] 9 (0, 0))) j
 have e : (⟨W.heap.size, 0, none⟩ : Addr).add (j * Kd.string.sz + 0) = ⟨W.heap.size, j, none⟩ := by
  rw [show j * Kd.string.sz + 0 = j by simp [Kd.string, Kd.scalar], add_at, Nat.zero_add]
 rw [e, hb]
 match j, hj with
 | 0, hj => simpa using hj
 | 1, hj => simpa using hj
 | 2, hj => simpa using hj
 | 3, hj => simpa using hj
set_option maxRecDepth 100000 in
theorem modes_ask (W : World) : Calls Tryd.prog 55 #[] W fun e W' => e = .returned (.slice (some ⟨W.heap.size, 0, none⟩) 4 4) ∧ W' = W.alloc (.cells #[.string ⟨#[]⟩, .string wRetry, .string wBlock, .string wBackup] 9 (0, 0)) := by
 go_enter Tryd.func55, Tryd.ntmps55
 go_wp2
 go_ret
 exact ⟨rfl, rfl⟩
theorem modeOf_range (s : ByteArray) : 0 ≤ modeOf s ∧ modeOf s ≤ 3 := by
 unfold modeOf
 split
 ·omega
 ·split
  ·omega
  ·split <;> omega
set_option maxHeartbeats 1000000 in
set_option maxRecDepth 100000 in
theorem mode_ask (s : ByteArray) (W : World) :
  Calls Tryd.prog 41 #[.string s] W fun e W' => e = .returned (.int .i64 (modeOf s)) ∧ Below W.heap.size W W' := by
 have HC := Aside0.mk (modes_C W)
 have hb1 : Below W.heap.size W (W.alloc (.cells #[.string ⟨#[]⟩, .string wRetry, .string wBlock, .string wBackup] 9 (0, 0))) := below_alloc (Below.refl _ _) _
 have HB := Aside0.mk hb1
 clear hb1
 obtain ⟨r, hr⟩ : ∃ r, idxGo [⟨#[]⟩, wRetry, wBlock, wBackup] s 0 = r := ⟨_, rfl⟩
 have HR := Aside0.mk hr
 have hr2 := idx_modes s
 rw [hr] at hr2
 obtain ⟨m0, m3⟩ := modeOf_range s
 clear hr
 obtain ⟨bs, hbs⟩ : ∃ bs, s.toList.isEmpty = bs := ⟨_, rfl⟩
 have hse : bs = true ↔ s = ⟨#[]⟩ := by
  rw [← hbs, Lib.toList_data]
  constructor
  ·intro h
   cases s with | mk x =>
   simp at h
   rw [h]
  ·rintro rfl; rfl
 have HRES : Aside0 ((bs = true ∧ modeOf s = 0) ∨ (bs = false ∧ r < 0 ∧ modeOf s = 0) ∨ (bs = false ∧ 0 ≤ r ∧ modeOf s = r)) := ⟨by
  by_cases h0 : s = ⟨#[]⟩
  ·exact .inl ⟨hse.2 h0, by rw [h0]; kernel_rfl⟩
  ·have hb : bs = false := by cases bs with | true => exact absurd (hse.1 rfl) h0 | false => rfl
   rw [if_neg h0] at hr2
   by_cases hm : modeOf s = 0
   ·rw [if_pos hm] at hr2; exact .inr (.inl ⟨hb, by omega, hm⟩)
   ·rw [if_neg hm] at hr2; exact .inr (.inr ⟨hb, by omega, hr2.symm⟩)⟩
 clear hr2 hse m0 m3
 go_enter Tryd.func41, Tryd.ntmps41
 go_wp2_with fail
 refine (modes_ask W).mono ?_
 rintro e wA ⟨rfl, rfl⟩
 go_wp2_with fail
 refine (slices_Index_string_string.calls 5 _ 4 [⟨#[]⟩, wRetry, wBlock, wBackup] s r _ HC.out (by decide) (by have := idx_eq [⟨#[]⟩, wRetry, wBlock, wBackup] s (by decide); rw [HR.out] at this; exact this)).mono ?_
 rintro e wB ⟨rfl, hd⟩
 have HB2 := Aside0.mk (below_step HB.out hd.below)
 clear hd HB HC
 rcases HRES.out with ⟨h1, h2⟩ | ⟨h1, h2, h3⟩ | ⟨h1, h2, h3⟩
 ·subst h1
  have H2 := Aside0.mk h2
  clear h2
  go_wp2_with fail
  go_ret
  exact ⟨by rw [H2.out]; rfl, HB2.out⟩
 ·subst h1
  have hlt : decide (r < 0) = true := decide_eq_true h2
  have H2 := Aside0.mk h3
  clear h3
  go_wp2_with fail
  go_ret
  exact ⟨by rw [H2.out]; rfl, HB2.out⟩
 ·subst h1
  have hlt : decide (r < 0) = false := decide_eq_false (by omega)
  have H2 := Aside0.mk h3
  clear h3
  go_wp2_with fail
  go_ret
  exact ⟨by rw [H2.out]; rfl, HB2.out⟩
end
end Go.Proofs.YtadfcdpalcgghaaDoor.Q
