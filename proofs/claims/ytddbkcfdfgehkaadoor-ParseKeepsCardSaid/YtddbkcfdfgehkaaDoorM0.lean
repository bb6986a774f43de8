-- Texts of this claim, put together: Q0, Hnamed, Llex, LregL, Ltask, HtaskA, Lpars, LparsC, Lright, Q1, Q13, LrefN, Q15, Q2, Q3, Q5, Q7, HtaskB, LparsB, Hpars.
import Derived.Test.YtddbkcfdfgehkaaDoorProg
import Derived.Below
import Derived.Deep.Draws
import Derived.Deep.AppendLies
import Derived.Maps.AppendAt
import Derived.OwnWalk
import Derived.Laws.BytesArg
import Derived.Laws.MakeOwn
import Derived.Laws.OwnMore
import Derived.Deep.OwnRows
import Derived.Tactics
import Derived.Lib.ConvBytes
import Derived.Laws.Slices
import Derived.WalkKit
import Derived.KernelRfl
import Derived.RowKit3
import Derived.Deep.LoopGhost
import Derived.Deep.QuietTactic
import Derived.BigQuiet
import Derived.WideLaws
import Derived.Deep.DeepCutAuto
import Derived.Deep.CutBlock
import Derived.Deep.RegionHeld3
import Derived.Laws.Rows
import Derived.Lib.AppendStr
import Derived.ArgAppend
import Derived.Laws.IdiomCopy
import Derived.OrdersHeld
import Derived.Laws.BitsLemmas
import Derived.RowKit
import Derived.Test.YtddbkcfdfgehkaaDoorWWords
import Derived.Test.YtddbkcfdfgehkaaDoorWLast
import Derived.Test.YtddbkcfdfgehkaaDoorWTab
import Derived.Test.YtddbkcfdfgehkaaDoorWFour
import Derived.Test.YtddbkcfdfgehkaaDoorWQPut
import Derived.Test.YtddbkcfdfgehkaaDoorWApart
import Derived.Test.YtddbkcfdfgehkaaDoorWArr
import Derived.Test.YtddbkcfdfgehkaaDoorWZeros
import Derived.Test.YtddbkcfdfgehkaaDoorWFoot
import Derived.Test.YtddbkcfdfgehkaaDoorWKept
import Derived.Test.YtddbkcfdfgehkaaDoorWShare
import Derived.Test.YtddbkcfdfgehkaaDoorWN
import Derived.Test.YtddbkcfdfgehkaaDoorWFootNe
import Derived.Test.YtddbkcfdfgehkaaDoorWAt
import Derived.Test.YtddbkcfdfgehkaaDoorWEqStruct
import Derived.Test.YtddbkcfdfgehkaaDoorWRepsOne
import Derived.Test.YtddbkcfdfgehkaaDoorWInv
import Derived.Test.YtddbkcfdfgehkaaDoorWInvWords
import Derived.Test.YtddbkcfdfgehkaaDoorWGuard
import Derived.Test.YtddbkcfdfgehkaaDoorWNEv
import Derived.Test.YtddbkcfdfgehkaaDoorWMore
import Derived.Test.YtddbkcfdfgehkaaDoorShelf
import Derived.WalkSpells
import Derived.Deep.RegionHeld
import Derived.OpenShut
import Derived.IntWalk
-- Written for this claim by the session's own driver (wip/qprint.py) over the kit's printer, out of the translation. Not trusted: Lean checks it.
namespace Go.Proofs.YtddbkcfdfgehkaaDoor.Q
open Go.RowKit Go.Proofs.YtddbkcfdfgehkaaDoorW.PrintWords Go.Proofs.YtddbkcfdfgehkaaDoorW.PrintLast Go.Proofs.YtddbkcfdfgehkaaDoorW.PrintMore
attribute [local go_sem] max2_int min2_int max_two min_two max_three min_three max_four min_four   -- for this text's walks alone
set_option linter.unusedVariables false
set_option linter.unusedSimpArgs false

def errW : Option Int → Value
 | none => .nilIface
 | some c => .iface 0 (.int .i64 c)
theorem errW_none : errW none = .nilIface := rfl
theorem errW_some (c : Int) : errW (some c) = .iface 0 (.int .i64 c) := rfl

theorem info5 : (Tryd.prog.info? 5).map (fun i => (i.zero, i.size, i.bytes)) = some (some (.int .u8 0), 1, 1) := by kernel_rfl
theorem info46 : (Tryd.prog.info? 46).map (fun i => (i.zero, i.size, i.bytes)) = some (some (.agg #[(.int .i64 0), (.string ⟨#[]⟩), (.int .i64 0), (.int .i64 0), (.int .i64 0)]), 5, 48) := by kernel_rfl
-- the values' own types
/-! #### struct type 46 -/
structure S46 where
 f0 : Int
 f1 : ByteArray
 f2 : Int
 f3 : Int
 f4 : Int
def z46 : S46 := ⟨(0 : Int), (⟨#[]⟩ : ByteArray), (0 : Int), (0 : Int), (0 : Int)⟩
def k46 : Kd S46 := Kd.iso (Kd.pair (Kd.int .i64) (Kd.pair Kd.string (Kd.pair (Kd.int .i64) (Kd.pair (Kd.int .i64) (Kd.int .i64))))) (fun x : S46 => (x.f0, x.f1, x.f2, x.f3, x.f4))
theorem k46_open {w : World} {x : S46} {cs : List Value} (h : k46.K w x cs) : cs = [.int .i64 x.f0, .string x.f1, .int .i64 x.f2, .int .i64 x.f3, .int .i64 x.f4] := by
 obtain ⟨_, _, rfl, rfl, ⟨_, _, rfl, rfl, ⟨_, _, rfl, rfl, ⟨_, _, rfl, rfl, rfl⟩⟩⟩⟩ := h
 exact rfl
theorem k46_mk (w : World) (x : S46)  : k46.K w x [.int .i64 x.f0, .string x.f1, .int .i64 x.f2, .int .i64 x.f3, .int .i64 x.f4] := ⟨[.int .i64 x.f0], [.string x.f1, .int .i64 x.f2, .int .i64 x.f3, .int .i64 x.f4], rfl, rfl, ⟨[.string x.f1], [.int .i64 x.f2, .int .i64 x.f3, .int .i64 x.f4], rfl, rfl, ⟨[.int .i64 x.f2], [.int .i64 x.f3, .int .i64 x.f4], rfl, rfl, ⟨[.int .i64 x.f3], [.int .i64 x.f4], rfl, rfl, rfl⟩⟩⟩⟩
theorem k46_mkM (w : World) (base : Nat) (ok : Nat → Prop) (x : S46)  : k46.M w base ok x [.int .i64 x.f0, .string x.f1, .int .i64 x.f2, .int .i64 x.f3, .int .i64 x.f4] := ⟨[.int .i64 x.f0], [.string x.f1, .int .i64 x.f2, .int .i64 x.f3, .int .i64 x.f4], rfl, rfl, ⟨[.string x.f1], [.int .i64 x.f2, .int .i64 x.f3, .int .i64 x.f4], rfl, rfl, ⟨[.int .i64 x.f2], [.int .i64 x.f3, .int .i64 x.f4], rfl, rfl, ⟨[.int .i64 x.f3], [.int .i64 x.f4], rfl, rfl, rfl⟩⟩⟩⟩
def rd_T46 (xs : List S46) (i : Int) : S46 := xs.getD i.toNat z46
theorem at_T46 {w : World} {A : Option Addr} {n : Nat} {xs : List S46} (h : Kd.C k46 w A n xs) (i : Int) (h0 : 0 ≤ i) (h1 : i < n) : ∃ ad , A = some ad ∧ w.cell? (ad.add (i.toNat * 5)) = some (.int .i64 (rd_T46 xs i).f0) ∧ w.cell? ⟨(ad.add (i.toNat * 5)).block, (ad.add (i.toNat * 5)).off + 1, none⟩ = some (.string (rd_T46 xs i).f1) ∧ w.cell? ⟨(ad.add (i.toNat * 5)).block, (ad.add (i.toNat * 5)).off + 2, none⟩ = some (.int .i64 (rd_T46 xs i).f2) ∧ w.cell? ⟨(ad.add (i.toNat * 5)).block, (ad.add (i.toNat * 5)).off + 3, none⟩ = some (.int .i64 (rd_T46 xs i).f3) ∧ w.cell? ⟨(ad.add (i.toNat * 5)).block, (ad.add (i.toNat * 5)).off + 4, none⟩ = some (.int .i64 (rd_T46 xs i).f4) := by
 obtain ⟨ad, c, e, _, hK, hc0⟩ := Kd.C_get h z46 i h0 h1
 have hc : ∀ j u, c[j]? = some u → w.cell? (ad.add (i.toNat * 5 + j)) = some u := hc0
 obtain rfl := k46_open hK
 exact ⟨ad, e, hc 0 _ rfl, by rw [← add_field _ _ 1 (by omega)]; exact hc 1 _ rfl, by rw [← add_field _ _ 2 (by omega)]; exact hc 2 _ rfl, by rw [← add_field _ _ 3 (by omega)]; exact hc 3 _ rfl, by rw [← add_field _ _ 4 (by omega)]; exact hc 4 _ rfl⟩

/-! #### struct type 40 -/
structure S40 where
 f0 : ByteArray
 f1 : Int
 f2 : Int
 f3 : Int
 f4 : Int
 f5 : Int
 f6 : Int
 f7 : Int
 f8 : Int
 f9 : Int
 f10 : Int
def z40 : S40 := ⟨(⟨#[]⟩ : ByteArray), (0 : Int), (0 : Int), (0 : Int), (0 : Int), (0 : Int), (0 : Int), (0 : Int), (0 : Int), (0 : Int), (0 : Int)⟩
def k40 : Kd S40 := Kd.iso (Kd.pair Kd.string (Kd.pair (Kd.int .i64) (Kd.pair (Kd.int .i64) (Kd.pair (Kd.int .i64) (Kd.pair (Kd.int .i64) (Kd.pair (Kd.int .i64) (Kd.pair (Kd.int .i64) (Kd.pair (Kd.int .i64) (Kd.pair (Kd.int .i64) (Kd.pair (Kd.int .i64) (Kd.int .i64))))))))))) (fun x : S40 => (x.f0, x.f1, x.f2, x.f3, x.f4, x.f5, x.f6, x.f7, x.f8, x.f9, x.f10))
theorem k40_open {w : World} {x : S40} {cs : List Value} (h : k40.K w x cs) : cs = [.string x.f0, .int .i64 x.f1, .int .i64 x.f2, .int .i64 x.f3, .int .i64 x.f4, .int .i64 x.f5, .int .i64 x.f6, .int .i64 x.f7, .int .i64 x.f8, .int .i64 x.f9, .int .i64 x.f10] := by
 obtain ⟨_, _, rfl, rfl, ⟨_, _, rfl, rfl, ⟨_, _, rfl, rfl, ⟨_, _, rfl, rfl, ⟨_, _, rfl, rfl, ⟨_, _, rfl, rfl, ⟨_, _, rfl, rfl, ⟨_, _, rfl, rfl, ⟨_, _, rfl, rfl, ⟨_, _, rfl, rfl, rfl⟩⟩⟩⟩⟩⟩⟩⟩⟩⟩ := h
 exact rfl
theorem k40_mkM (w : World) (base : Nat) (ok : Nat → Prop) (x : S40)  : k40.M w base ok x [.string x.f0, .int .i64 x.f1, .int .i64 x.f2, .int .i64 x.f3, .int .i64 x.f4, .int .i64 x.f5, .int .i64 x.f6, .int .i64 x.f7, .int .i64 x.f8, .int .i64 x.f9, .int .i64 x.f10] := ⟨[.string x.f0], [.int .i64 x.f1, .int .i64 x.f2, .int .i64 x.f3, .int .i64 x.f4, .int .i64 x.f5, .int .i64 x.f6, .int .i64 x.f7, .int .i64 x.f8, .int .i64 x.f9, .int .i64 x.f10], rfl, rfl, ⟨[.int .i64 x.f1], [.int .i64 x.f2, .int .i64 x.f3, .int .i64 x.f4, .int .i64 x.f5, .int .i64 x.f6, .int .i64 x.f7, .int .i64 x.f8, .int .i64 x.f9, .int .i64 x.f10], rfl, rfl, ⟨[.int .i64 x.f2], [.int .i64 x.f3, .int .i64 x.f4, .int .i64 x.f5, .int .i64 x.f6, .int .i64 x.f7, .int .i64 x.f8, .int .i64 x.f9, .int .i64 x.f10], rfl, rfl, ⟨[.int .i64 x.f3], [.int .i64 x.f4, .int .i64 x.f5, .int .i64 x.f6, .int .i64 x.f7, .int .i64 x.f8, .int .i64 x.f9, .int .i64 x.f10], rfl, rfl, ⟨[.int .i64 x.f4], [.int .i64 x.f5, .int .i64 x.f6, .int .i64 x.f7, .int .i64 x.f8, .int .i64 x.f9, .int .i64 x.f10], rfl, rfl, ⟨[.int .i64 x.f5], [.int .i64 x.f6, .int .i64 x.f7, .int .i64 x.f8, .int .i64 x.f9, .int .i64 x.f10], rfl, rfl, ⟨[.int .i64 x.f6], [.int .i64 x.f7, .int .i64 x.f8, .int .i64 x.f9, .int .i64 x.f10], rfl, rfl, ⟨[.int .i64 x.f7], [.int .i64 x.f8, .int .i64 x.f9, .int .i64 x.f10], rfl, rfl, ⟨[.int .i64 x.f8], [.int .i64 x.f9, .int .i64 x.f10], rfl, rfl, ⟨[.int .i64 x.f9], [.int .i64 x.f10], rfl, rfl, rfl⟩⟩⟩⟩⟩⟩⟩⟩⟩⟩
def rd_T40 (xs : List S40) (i : Int) : S40 := xs.getD i.toNat z40
theorem at_T40 {w : World} {A : Option Addr} {n : Nat} {xs : List S40} (h : Kd.C k40 w A n xs) (i : Int) (h0 : 0 ≤ i) (h1 : i < n) : ∃ ad , A = some ad ∧ w.cell? (ad.add (i.toNat * 11)) = some (.string (rd_T40 xs i).f0) ∧ w.cell? ⟨(ad.add (i.toNat * 11)).block, (ad.add (i.toNat * 11)).off + 1, none⟩ = some (.int .i64 (rd_T40 xs i).f1) ∧ w.cell? ⟨(ad.add (i.toNat * 11)).block, (ad.add (i.toNat * 11)).off + 2, none⟩ = some (.int .i64 (rd_T40 xs i).f2) ∧ w.cell? ⟨(ad.add (i.toNat * 11)).block, (ad.add (i.toNat * 11)).off + 3, none⟩ = some (.int .i64 (rd_T40 xs i).f3) ∧ w.cell? ⟨(ad.add (i.toNat * 11)).block, (ad.add (i.toNat * 11)).off + 4, none⟩ = some (.int .i64 (rd_T40 xs i).f4) ∧ w.cell? ⟨(ad.add (i.toNat * 11)).block, (ad.add (i.toNat * 11)).off + 5, none⟩ = some (.int .i64 (rd_T40 xs i).f5) ∧ w.cell? ⟨(ad.add (i.toNat * 11)).block, (ad.add (i.toNat * 11)).off + 6, none⟩ = some (.int .i64 (rd_T40 xs i).f6) ∧ w.cell? ⟨(ad.add (i.toNat * 11)).block, (ad.add (i.toNat * 11)).off + 7, none⟩ = some (.int .i64 (rd_T40 xs i).f7) ∧ w.cell? ⟨(ad.add (i.toNat * 11)).block, (ad.add (i.toNat * 11)).off + 8, none⟩ = some (.int .i64 (rd_T40 xs i).f8) ∧ w.cell? ⟨(ad.add (i.toNat * 11)).block, (ad.add (i.toNat * 11)).off + 9, none⟩ = some (.int .i64 (rd_T40 xs i).f9) ∧ w.cell? ⟨(ad.add (i.toNat * 11)).block, (ad.add (i.toNat * 11)).off + 10, none⟩ = some (.int .i64 (rd_T40 xs i).f10) := by
 obtain ⟨ad, c, e, _, hK, hc0⟩ := Kd.C_get h z40 i h0 h1
 have hc : ∀ j u, c[j]? = some u → w.cell? (ad.add (i.toNat * 11 + j)) = some u := hc0
 obtain rfl := k40_open hK
 exact ⟨ad, e, hc 0 _ rfl, by rw [← add_field _ _ 1 (by omega)]; exact hc 1 _ rfl, by rw [← add_field _ _ 2 (by omega)]; exact hc 2 _ rfl, by rw [← add_field _ _ 3 (by omega)]; exact hc 3 _ rfl, by rw [← add_field _ _ 4 (by omega)]; exact hc 4 _ rfl, by rw [← add_field _ _ 5 (by omega)]; exact hc 5 _ rfl, by rw [← add_field _ _ 6 (by omega)]; exact hc 6 _ rfl, by rw [← add_field _ _ 7 (by omega)]; exact hc 7 _ rfl, by rw [← add_field _ _ 8 (by omega)]; exact hc 8 _ rfl, by rw [← add_field _ _ 9 (by omega)]; exact hc 9 _ rfl, by rw [← add_field _ _ 10 (by omega)]; exact hc 10 _ rfl⟩

end Go.Proofs.YtddbkcfdfgehkaaDoor.Q

-- Whether a text is a name, as index.Named tells it: proved by hand, in the printer's form.
namespace Go.Proofs.YtddbkcfdfgehkaaDoor.Q
open Go.RowKit Go.Proofs.YtddbkcfdfgehkaaDoorW.PrintWords Go.Proofs.YtddbkcfdfgehkaaDoorW.PrintLast Go.Proofs.YtddbkcfdfgehkaaDoorW.PrintMore
attribute [local go_sem] max2_int min2_int max_two min_two max_three min_three max_four min_four   -- for this text's walks alone
set_option linter.unusedVariables false
set_option linter.unusedSimpArgs false

def nLetters : List UInt8 := [97, 98, 99, 100, 101, 102, 103, 104, 105, 106, 107, 108, 109, 110, 111, 112, 113, 114, 115, 116, 117, 118, 119, 120, 121, 122]
def nOthers : List UInt8 := nLetters ++ [48, 49, 50, 51, 52, 53, 54, 55, 56, 57, 95]
def named (a : ByteArray) : Bool := decide (1 ≤ a.size) && decide (a.size ≤ 12) && (a.data.toList.take 1).all (nLetters.contains ·) && a.data.toList.all (nOthers.contains ·)
def index_Named.f (a0 : ByteArray) : Option Bool := some (named a0)
theorem dw_nil_iff {α : Type} (p : α → Bool) : ∀ l : List α, l.dropWhile p = [] ↔ ∀ x ∈ l, p x = true
 | [] => by simp
 | a :: r => by
  rw [List.dropWhile_cons]
  by_cases h : p a = true
  ·rw [if_pos h, dw_nil_iff p r]; simp [h]
  ·rw [if_neg h]; simp [h]
theorem trimS_nil_iff (l cs : List UInt8) : (Lib.trimS l cs = []) ↔ l.all (cs.contains ·) = true := by
 unfold Lib.trimS Lib.trimLeftS Lib.trimRightS
 constructor
 ·intro h
  have h1 : ∀ x ∈ ((l.reverse.dropWhile (cs.contains ·)).reverse), cs.contains x = true := by
   have := (dw_nil_iff _ _).1 h
   exact this
  have h2 : l.reverse.dropWhile (cs.contains ·) = [] := by
   cases hd : l.reverse.dropWhile (cs.contains ·) with
   | nil => rfl
   | cons x r =>
    have hx : cs.contains x = true := h1 x (by rw [hd]; simp)
    have := List.head_dropWhile_not (p := (cs.contains ·)) (l := l.reverse) (by rw [hd]; simp)
    simp only [hd, List.head_cons] at this
    rw [hx] at this
    exact absurd this (by simp)
  have h3 := (dw_nil_iff _ _).1 h2
  rw [List.all_eq_true]
  intro x hx
  exact h3 x (by simpa using hx)
 ·intro h
  rw [List.all_eq_true] at h
  have h2 : l.reverse.dropWhile (cs.contains ·) = [] := (dw_nil_iff _ _).2 (fun x hx => h x (by simpa using hx))
  rw [h2]; rfl
theorem empty_mk (l : List UInt8) : (⟨l.toArray⟩ : ByteArray).toList.isEmpty = l.isEmpty := by rw [Lib.toList_data]
theorem trim_ask (s cs : ByteArray) (w : World) (hs : s.size ≤ 9223372036854775807) (hcs : cs.size < 4294967281) (hascii : ∀ (j : Nat) b, cs.data.toList[j]? = some b → b.toNat < 128) (b : Bool) (hb : s.data.toList.all (cs.data.toList.contains ·) = b) :
  Calls Tryd.prog 57 #[.string s, .string cs] w fun e w' => ∃ t : ByteArray, e = .returned (.string t) ∧ t.toList.isEmpty = b ∧ Below w.heap.size w w' := by
 refine (Any.strings_Trim_laid Tryd.shTrim (by kernel_rfl) s cs w hs hcs hascii).mono fun e w' ⟨he, hB⟩ => ⟨_, he, ?_, hB⟩
 rw [empty_mk]
 cases b with
 | true => rw [(trimS_nil_iff _ _).2 hb]; rfl
 | false =>
  cases hl : Lib.trimS s.data.toList cs.data.toList with
  | nil => rw [(trimS_nil_iff _ _).1 hl] at hb; exact absurd hb (by simp)
  | cons _ _ => rfl
theorem extract_one (s : ByteArray) : (s.extract 0 1).data.toList = s.data.toList.take 1 := by
 rw [ByteArray.data_extract]; simp
set_option maxHeartbeats 1000000 in
set_option maxRecDepth 100000 in
theorem index_Named.calls (l0 : ByteArray) (r1 : Bool) (w : World) (h : index_Named.f l0 = some r1) :
  Calls Tryd.prog 53 #[.string l0] w fun e w' => e = .returned (.bool r1) ∧ Below w.heap.size w w' := by
 have hr := Option.some.inj h
 have HB := Aside0.mk (Below.refl w.heap.size w)
 clear h
 unfold named at hr
 by_cases h1 : 1 ≤ l0.size
 ·by_cases h2 : l0.size ≤ 12
  ·rw [decide_eq_true h1, decide_eq_true h2] at hr
   rw [Bool.and_self, Bool.true_and] at hr
   have d1 : decide ((l0.size : Int) ≥ 1) = true := by simp; omega
   have d2 : decide ((l0.size : Int) ≤ 12) = true := by simp; omega
   have q1 : (1 : Int) ≤ (l0.size : Int) := by omega
   have H2 := Aside0.mk h2
   have he1 : (l0.extract 0 1).size ≤ 12 := by rw [ByteArray.size_extract]; omega
   have HE1 := Aside0.mk he1
   clear h1 h2 he1
   obtain ⟨b1, hb1⟩ : ∃ b1, (l0.data.toList.take 1).all (nLetters.contains ·) = b1 := ⟨_, rfl⟩
   obtain ⟨b2, hb2⟩ : ∃ b2, l0.data.toList.all (nOthers.contains ·) = b2 := ⟨_, rfl⟩
   rw [hb1, hb2] at hr
   rw [← extract_one] at hb1
   have T1 := Aside0.mk hb1
   have T2 := Aside0.mk hb2
   have HR := Aside0.mk hr
   clear hb1 hb2 hr
   cases b1 with
   | true =>
    go_enter Tryd.func53, Tryd.ntmps53
    go_wp2_with (first
     | (refine (trim_ask (l0.extract 0 1) _ _ (by have := HE1.out; omega) (by decide) (ascii_of_all (by decide)) _ T1.out).mono ?_; rintro e wA ⟨t1, rfl, ht1, hb⟩; have HB1 := Aside0.mk (below_step HB.out hb); clear HB hb T1; have HB := HB1; clear HB1)
     | (refine (trim_ask l0 _ _ (by have := H2.out; omega) (by decide) (ascii_of_all (by decide)) _ T2.out).mono ?_; rintro e wA ⟨t2, rfl, ht2, hb⟩; have HB1 := Aside0.mk (below_step HB.out hb); clear HB hb T2; have HB := HB1; clear HB1))
    go_ret
    exact ⟨by rw [← HR.out]; simp [ht2], HB.out⟩
   | false =>
    go_enter Tryd.func53, Tryd.ntmps53
    go_wp2_with (first
     | (refine (trim_ask (l0.extract 0 1) _ _ (by have := HE1.out; omega) (by decide) (ascii_of_all (by decide)) _ T1.out).mono ?_; rintro e wA ⟨t1, rfl, ht1, hb⟩; have HB1 := Aside0.mk (below_step HB.out hb); clear HB hb T1; have HB := HB1; clear HB1))
    go_ret
    exact ⟨by rw [← HR.out]; simp, HB.out⟩
  ·rw [decide_eq_false h2] at hr
   rw [Bool.and_false, Bool.false_and, Bool.false_and] at hr
   have d1 : decide ((l0.size : Int) ≥ 1) = true := by simp; omega
   have d2 : decide ((l0.size : Int) ≤ 12) = false := by simp; omega
   have HR := Aside0.mk hr
   clear h1 h2 hr
   go_enter Tryd.func53, Tryd.ntmps53
   go_wp2
   go_ret
   exact ⟨by rw [← HR.out]; rfl, HB.out⟩
 ·rw [decide_eq_false h1] at hr
  rw [Bool.false_and, Bool.false_and, Bool.false_and] at hr
  have d1 : decide ((l0.size : Int) ≥ 1) = false := by simp; omega
  have HR := Aside0.mk hr
  clear h1 hr
  go_enter Tryd.func53, Tryd.ntmps53
  go_wp2
  go_ret
  exact ⟨by rw [← HR.out]; rfl, HB.out⟩
end Go.Proofs.YtddbkcfdfgehkaaDoor.Q

-- What lex.Tokens tells, as a plain function of bytes (no program in sight).
namespace Go.Proofs.YtddbkcfdfgehkaaDoor.Q
open Go.RowKit Go.Proofs.YtddbkcfdfgehkaaDoorW.PrintWords Go.Proofs.YtddbkcfdfgehkaaDoorW.PrintLast Go.Proofs.YtddbkcfdfgehkaaDoorW.PrintMore
attribute [local go_sem] max2_int min2_int max_two min_two max_three min_three max_four min_four   -- for this text's walks alone
set_option linter.unusedVariables false
set_option linter.unusedSimpArgs false

def smB (c : Int) : Bool := decide (97 ≤ c) && decide (c ≤ 122)
def dgB (c : Int) : Bool := decide (48 ≤ c) && decide (c ≤ 57)
def wdB (c : Int) : Bool := smB c || dgB c || (c == 95)
def rkB (c : Int) : Bool := c != 10
/-- A number's value; none: it is over. -/
def valGo : Int → List Int → Option Int
 | n, [] => some n
 | n, c :: s => if 10 * n + (c - 48) > 1099511627776 then none else valGo (10 * n + (c - 48)) s
/-- The first piece of a text: an error, how many bytes it has, its token, whether it ends a line. -/
def piece : List Int → Int × Nat × Option (Int × ByteArray × Int) × Bool
 | [] => (0, 0, none, false)
 | c :: s =>
  if smB c = true then (0, ((c :: s).takeWhile wdB).length, some (1, strOfNums ((c :: s).takeWhile wdB), 0), false)
  else if dgB c = true then
   match valGo 0 ((c :: s).takeWhile dgB) with
   | none => (2, 0, none, false)
   | some n => (0, ((c :: s).takeWhile dgB).length, some (2, strOfNums ((c :: s).takeWhile dgB), n), false)
  else if c = 10 then (0, 1, some (3, (⟨#[]⟩ : ByteArray), 0), true)
  else if c = 32 then (0, 1, none, false)
  else if c = 9 then (0, 1, none, false)
  else if c = 35 then (0, ((c :: s).takeWhile rkB).length, none, false)
  else (5, 0, none, false)
def tokL (t : Option (Int × ByteArray × Int)) (line col : Int) : List S46 :=
 match t with
 | none => []
 | some (k, x, v) => [⟨k, x, v, line, col⟩]
def toks : Nat → List Int → Int → Int → List S46 → List S46 × Int × Int × Int
 | 0, _, _, _, _ => ([], 0, 0, 0)
 | k + 1, s, line, col, xs =>
  if s = [] then (xs ++ [⟨4, (⟨#[]⟩ : ByteArray), 0, line, col⟩], 0, 0, 0)
  else if (piece s).1 ≠ 0 then ([], (piece s).1, line, col)
  else toks k (s.drop (piece s).2.1) (if (piece s).2.2.2 = true then line + 1 else line) (if (piece s).2.2.2 = true then 1 else col + (piece s).2.1) (xs ++ tokL (piece s).2.2.1 line col)
def okBytes (l : List Int) : Bool := l.all fun x => decide (0 ≤ x) && decide (x ≤ 255)
def lexToks (l : List Int) : List S46 × Int × Int × Int := toks (l.length + 1) l 1 1 []

theorem takeWhile_le (P : Int → Bool) (s : List Int) : (s.takeWhile P).length ≤ s.length := by
 induction s with
 | nil => simp
 | cons c s ih => rw [List.takeWhile_cons]; split <;> simp <;> omega
theorem takeWhile_pos (P : Int → Bool) (c : Int) (s : List Int) (h : P c = true) : 1 ≤ ((c :: s).takeWhile P).length := by
 rw [List.takeWhile_cons, if_pos h]; simp
theorem sm_wd {c : Int} (h : smB c = true) : wdB c = true := by unfold wdB; rw [h]; rfl
/-- The ways of a piece. -/
theorem piece_word {c : Int} {s : List Int} (h1 : smB c = true) : piece (c :: s) = (0, ((c :: s).takeWhile wdB).length, some (1, strOfNums ((c :: s).takeWhile wdB), 0), false) := by
 unfold piece; dsimp only; rw [if_pos h1]
theorem piece_over {c : Int} {s : List Int} (h1 : ¬ smB c = true) (h2 : dgB c = true) (h : valGo 0 ((c :: s).takeWhile dgB) = none) : piece (c :: s) = (2, 0, none, false) := by
 unfold piece; dsimp only; rw [if_neg h1, if_pos h2, h]
theorem piece_number {c : Int} {s : List Int} {n : Int} (h1 : ¬ smB c = true) (h2 : dgB c = true) (h : valGo 0 ((c :: s).takeWhile dgB) = some n) : piece (c :: s) = (0, ((c :: s).takeWhile dgB).length, some (2, strOfNums ((c :: s).takeWhile dgB), n), false) := by
 unfold piece; dsimp only; rw [if_neg h1, if_pos h2, h]
theorem piece_line (s : List Int) : piece (10 :: s) = (0, 1, some (3, (⟨#[]⟩ : ByteArray), 0), true) := rfl
theorem piece_space (s : List Int) : piece (32 :: s) = (0, 1, none, false) := rfl
theorem piece_tab (s : List Int) : piece (9 :: s) = (0, 1, none, false) := rfl
theorem piece_remark (s : List Int) : piece (35 :: s) = (0, ((35 :: s).takeWhile rkB).length, none, false) := rfl
theorem piece_bad {c : Int} {s : List Int} (h1 : ¬ smB c = true) (h2 : ¬ dgB c = true) (h3 : c ≠ 10) (h4 : c ≠ 32) (h5 : c ≠ 9) (h6 : c ≠ 35) : piece (c :: s) = (5, 0, none, false) := by
 unfold piece; dsimp only; rw [if_neg h1, if_neg h2, if_neg h3, if_neg h4, if_neg h5, if_neg h6]
theorem piece_ways (c : Int) (s : List Int) : smB c = true ∨ (¬ smB c = true ∧ dgB c = true ∧ ((∃ n, valGo 0 ((c :: s).takeWhile dgB) = some n) ∨ valGo 0 ((c :: s).takeWhile dgB) = none)) ∨ c = 10 ∨ c = 32 ∨ c = 9 ∨ c = 35 ∨
  (¬ smB c = true ∧ ¬ dgB c = true ∧ c ≠ 10 ∧ c ≠ 32 ∧ c ≠ 9 ∧ c ≠ 35) := by
 by_cases h1 : smB c = true
 ·exact .inl h1
 ·by_cases h2 : dgB c = true
  ·refine .inr (.inl ⟨h1, h2, ?_⟩)
   cases valGo 0 ((c :: s).takeWhile dgB) with
   | none => exact .inr rfl
   | some n => exact .inl ⟨n, rfl⟩
  ·by_cases h3 : c = 10
   ·exact .inr (.inr (.inl h3))
   ·by_cases h4 : c = 32
    ·exact .inr (.inr (.inr (.inl h4)))
    ·by_cases h5 : c = 9
     ·exact .inr (.inr (.inr (.inr (.inl h5))))
     ·by_cases h6 : c = 35
      ·exact .inr (.inr (.inr (.inr (.inr (.inl h6)))))
      ·exact .inr (.inr (.inr (.inr (.inr (.inr ⟨h1, h2, h3, h4, h5, h6⟩)))))
theorem piece_le (s : List Int) : (piece s).2.1 ≤ s.length := by
 cases s with
 | nil => simp [piece]
 | cons c s =>
  rcases piece_ways c s with h | ⟨h1, h2, ⟨n, h⟩ | h⟩ | rfl | rfl | rfl | rfl | ⟨h1, h2, h3, h4, h5, h6⟩
  ·rw [piece_word h]; exact takeWhile_le _ _
  ·rw [piece_number h1 h2 h]; exact takeWhile_le _ _
  ·rw [piece_over h1 h2 h]; exact Nat.zero_le _
  ·rw [piece_line]; simp
  ·rw [piece_space]; simp
  ·rw [piece_tab]; simp
  ·rw [piece_remark]; exact takeWhile_le _ _
  ·rw [piece_bad h1 h2 h3 h4 h5 h6]; exact Nat.zero_le _
theorem piece_pos {s : List Int} (hs : s ≠ []) (he : (piece s).1 = 0) : 1 ≤ (piece s).2.1 := by
 cases s with
 | nil => exact absurd rfl hs
 | cons c s =>
  rcases piece_ways c s with h | ⟨h1, h2, ⟨n, h⟩ | h⟩ | rfl | rfl | rfl | rfl | ⟨h1, h2, h3, h4, h5, h6⟩
  ·rw [piece_word h]; exact takeWhile_pos _ _ _ (sm_wd h)
  ·rw [piece_number h1 h2 h]; exact takeWhile_pos _ _ _ h2
  ·rw [piece_over h1 h2 h] at he; exact absurd he (by decide)
  ·rw [piece_line]; exact Nat.le_refl _
  ·rw [piece_space]; exact Nat.le_refl _
  ·rw [piece_tab]; exact Nat.le_refl _
  ·rw [piece_remark]; exact takeWhile_pos _ _ _ rfl
  ·rw [piece_bad h1 h2 h3 h4 h5 h6] at he; exact absurd he (by decide)
end Go.Proofs.YtddbkcfdfgehkaaDoor.Q

-- A region that asks the tape: loads are taken first, though stores into what they read come at its end (they wait for the loads).
namespace Go.Proofs.YtddbkcfdfgehkaaDoor.Q
open Go.RowKit Go.Proofs.YtddbkcfdfgehkaaDoorW.PrintWords Go.Proofs.YtddbkcfdfgehkaaDoorW.PrintLast Go.Proofs.YtddbkcfdfgehkaaDoorW.PrintMore
attribute [local go_sem] max2_int min2_int max_two min_two max_three min_three max_four min_four   -- for this text's walks alone
set_option linter.unusedVariables false
set_option linter.unusedSimpArgs false

section
variable {P : Program} {md : Region.Mode} {ops : Array Oper} {Q : Exit → Act → World → Prop} {S : World → Prop} {sts : List Nat}
/-- None of the stores has come up. -/
def noneUp (sts : List Nat) (listed : Array Bool) : Prop := ∀ k, k ∈ sts → listed.getD k true = false
/-- Whatever order is picked from here on; S holds as long as none of the stores has come up. -/
def wpL (P : Program) (md : Region.Mode) (ops : Array Oper) (Q : Exit → Act → World → Prop) (S : World → Prop) (sts : List Nat) : Nat → Array Bool → Act → World → Prop
 | 0, listed, a, w => Region.ready md ops listed = [] ∧ Q .normal a w
 | fuel + 1, listed, a, w => (Region.ready md ops listed = [] → Q .normal a w) ∧
  ∀ i ∈ Region.ready md ops listed, wpOp P ops Q i (fun a' w' => (noneUp sts (listed.setIfInBounds i true) → S w') ∧ wpL P md ops Q S sts fuel (listed.setIfInBounds i true) a' w') a w
theorem wpL_any : ∀ (fuel : Nat) (listed : Array Bool) (a : Act) (w : World), wpL P md ops Q S sts fuel listed a w → wpAny P md ops Q fuel listed a w
 | 0, _, _, _, h => h
 | fuel + 1, _, _, _, h => ⟨h.1, fun i hi => wpOp_mono (fun a' w' h' => wpL_any fuel _ a' w' h'.2) (h.2 i hi)⟩
theorem noneUp_set {listed : Array Bool} {j : Nat} (h : noneUp sts listed) (hj : j ∉ sts) : noneUp sts (listed.setIfInBounds j true) := fun k hk => by
 have hne : j ≠ k := fun e => hj (e ▸ hk)
 have := h k hk
 rw [← this]
 simp [Array.getD_eq_getD_getElem?, hne]
theorem wpL_first {i : Nat} {oi : Oper} {v : Value} (hi : ops[i]? = some oi) (hsel : ∀ (j : Nat) (o : Oper) cs b, ops[j]? = some o → o.op ≠ .select cs b)
  (hQ : ∀ c a w, Q (.panic c) (a.put oi.dst v) w → Q (.panic c) a w) (hist : i ∉ sts)
  (hst : ∀ k, k ∈ sts → ∀ ok, ops[k]? = some ok → ∃ e ∈ ok.after, Region.binds md e = true ∧ e.on = i) :
  ∀ (fuel : Nat) (listed : Array Bool) (a : Act) (w : World),
   (∀ j oj, ops[j]? = some oj → j ≠ i → listed.getD j true = false → (∀ e ∈ oj.after, Region.binds md e = true → e.on ≠ i) → oi.apart ops oj = true) →
   i ∈ Region.ready md ops listed → YieldsIf P ops S oi v a → S w → noneUp sts listed →
   wpL P md ops Q S sts fuel (listed.setIfInBounds i true) (a.put oi.dst v) w → wpL P md ops Q S sts (fuel + 1) listed a w := by
 intro fuel
 induction fuel with
 | zero =>
  intro listed a w _ hr hy hS _ H
  refine ⟨fun h => (by rw [h] at hr; cases hr), fun j hj => ?_⟩
  by_cases hji : j = i
  ·rw [hji]; exact hy.wpOp hi hS ⟨fun _ => hS, H⟩
  ·have := ready_mono hj hji
   rw [H.1] at this
   cases this
 | succ fuel ih =>
  intro listed a w hfree hr hy hS hN H
  refine ⟨fun h => (by rw [h] at hr; cases hr), fun j hj => ?_⟩
  by_cases hji : j = i
  ·rw [hji]; exact hy.wpOp hi hS ⟨fun _ => hS, H⟩
  ·have h1 := H.2 j (ready_mono hj hji)
   obtain ⟨hjun, oj, hoj, hall⟩ := mem_ready.1 hj
   have hun := (mem_ready.1 hr).1
   have hnot : ∀ e ∈ oj.after, Region.binds md e = true → e.on ≠ i := fun e he hb heq => by
    have q1 := hall e he hb
    rw [heq] at q1
    rcases Nat.lt_or_ge i listed.size with h' | h'
    ·simp [h'] at hun q1; rw [hun] at q1; cases q1
    ·simp [Array.getElem?_eq_none h'] at q1
   have hjs : j ∉ sts := fun hm => by
    obtain ⟨e, he, hb, heq⟩ := hst j hm oj hoj
    exact hnot e he hb heq
   have hN2 : noneUp sts ((listed.setIfInBounds i true).setIfInBounds j true) := noneUp_set (noneUp_set hN hist) hjs
   have h2 := wpOp_putIf hoj (hfree j oj hoj hji hjun hnot) (fun cs b => hsel i oi cs b hi) (fun cs b => hsel j oj cs b hoj) hQ hy h1
   refine wpOp_mono (fun a' w' h3 => ⟨fun _ => h3.2.1 hN2, ih (listed.setIfInBounds j true) a' w' ?_ (ready_mono hr (Ne.symm hji)) h3.1 (h3.2.1 hN2) (noneUp_set hN hjs) ?_⟩) h2
   ·intro k ok hk hki hku hno
    refine hfree k ok hk hki ?_ hno
    by_cases hjk : j = k
    ·rw [← hjk]; exact hjun
    ·rw [getD_set_ne true hjk] at hku; exact hku
   ·rw [Array.setIfInBounds_comm _ _ hji]
    exact h3.2.2
theorem noneUp_of {listed : Array Bool} (h : sts.all (fun k => !(listed.getD k true)) = true) : noneUp sts listed := fun k hk => by
 have := List.all_eq_true.1 h k hk
 simpa using this
/-- The stores wait for number 'i' (to be reckoned). -/
def waitFor (md : Region.Mode) (ops : Array Oper) (sts : List Nat) (i : Nat) : Bool := sts.all fun k => match ops[k]? with
 | some o => o.after.any fun e => Region.binds md e && e.on == i
 | none => true
theorem waitFor_spec {i : Nat} (h : waitFor md ops sts i = true) : ∀ k, k ∈ sts → ∀ ok, ops[k]? = some ok → ∃ e ∈ ok.after, Region.binds md e = true ∧ e.on = i := fun k hk ok hok => by
 have h1 := List.all_eq_true.1 h k hk
 simp only [hok, Array.any_eq_true'] at h1
 obtain ⟨e, he, h2⟩ := h1
 simp only [Bool.and_eq_true, beq_iff_eq] at h2
 exact ⟨e, he, h2.1, h2.2⟩
theorem wpL_take {i : Nat} {oi : Oper} {v : Value} {fuel : Nat} {listed : Array Bool} {a : Act} {w : World} (hi : ops[i]? = some oi)
  (hs : Region.noSelect ops = true) (hf : Region.free md ops listed i = true) (hr : (Region.ready md ops listed).contains i = true) (hwt : waitFor md ops sts i = true) (hni : sts.contains i = false) (hno : sts.all (fun k => !(listed.getD k true)) = true)
  (hQ : ∀ c a w, Q (.panic c) (a.put oi.dst v) w → Q (.panic c) a w) (hy : YieldsIf P ops S oi v a) (hS : S w)
  (h : wpL P md ops Q S sts fuel (listed.setIfInBounds i true) (a.put oi.dst v) w) : wpL P md ops Q S sts (fuel + 1) listed a w :=
 wpL_first hi (Region.noSelect_spec hs) hQ (fun hm => by rw [List.contains_eq_mem] at hni; simp [hm] at hni) (waitFor_spec hwt) fuel listed a w (Region.free_spec hi hf) (by simpa using hr) hy hS (noneUp_of hno) h
def AllL (P : Program) (md : Region.Mode) (ops : Array Oper) (Q : Exit → Act → World → Prop) (S : World → Prop) (sts : List Nat) (fuel : Nat) (listed : Array Bool) (a : Act) (w : World) (rs : List Nat) : Prop :=
 ∀ i ∈ rs, wpOp P ops Q i (fun a' w' => (noneUp sts (listed.setIfInBounds i true) → S w') ∧ wpL P md ops Q S sts fuel (listed.setIfInBounds i true) a' w') a w
theorem AllL.nil {fuel : Nat} {listed : Array Bool} {a : Act} {w : World} : AllL P md ops Q S sts fuel listed a w [] := fun _ h => by cases h
/-- An operation that is none of the stores: S anew. -/
theorem AllL.cons {fuel : Nat} {listed : Array Bool} {a : Act} {w : World} {i : Nat} {o : Oper} {rs : List Nat} (ho : ops[i]? = some o)
  (h : ∀ K' : Act → World → Prop, Shut (∀ a w, S w → wpL P md ops Q S sts fuel (listed.setIfInBounds i true) a w → K' a w) → if Region.wanted o (yielded ops a.tmps) = true then Oper.wp P o a w K' Q else K' (a.put o.dst undef) w)
  (hs : AllL P md ops Q S sts fuel listed a w rs) : AllL P md ops Q S sts fuel listed a w (i :: rs) := fun j hj => by
 rcases List.mem_cons.1 hj with rfl | hj
 ·exact wpOp_step ho (fun K' hK => h K' (fun a w hS hW => hK a w ⟨fun _ => hS, hW⟩))
 ·exact hs j hj
/-- From the first of the stores on: S is asked no more. -/
theorem AllL.late {fuel : Nat} {listed : Array Bool} {a : Act} {w : World} {i : Nat} {o : Oper} {rs : List Nat} (ho : ops[i]? = some o) (hup : sts.any (fun k => (listed.setIfInBounds i true).getD k true) = true)
  (h : ∀ K' : Act → World → Prop, Shut (∀ a w, wpL P md ops Q S sts fuel (listed.setIfInBounds i true) a w → K' a w) → if Region.wanted o (yielded ops a.tmps) = true then Oper.wp P o a w K' Q else K' (a.put o.dst undef) w)
  (hs : AllL P md ops Q S sts fuel listed a w rs) : AllL P md ops Q S sts fuel listed a w (i :: rs) := fun j hj => by
 rcases List.mem_cons.1 hj with rfl | hj
 ·refine wpOp_step ho (fun K' hK => h K' (fun a w hW => hK a w ⟨fun hN => ?_, hW⟩))
  obtain ⟨k, hk, hk2⟩ := List.any_eq_true.1 hup
  rw [hN k hk] at hk2
  exact absurd hk2 (by simp)
 ·exact hs j hj
theorem wpL_ready {rs : List Nat} {fuel : Nat} {listed : Array Bool} {a : Act} {w : World} (hr : Region.ready md ops listed = rs) (hne : rs ≠ [])
  (h : AllL P md ops Q S sts fuel listed a w rs) : wpL P md ops Q S sts (fuel + 1) listed a w := ⟨fun h0 => absurd (hr ▸ h0) hne, hr ▸ h⟩
theorem wpL_done {listed : Array Bool} {a : Act} {w : World} (hr : Region.ready md ops listed = []) (h : Q .normal a w) : ∀ fuel, wpL P md ops Q S sts fuel listed a w
 | 0 => ⟨hr, h⟩
 | _ + 1 => ⟨fun _ => h, by rw [hr]; simp⟩
theorem wp_region_late (sts : List Nat) (S : World → Prop) {id : Nat} {a : Act} {w : World} (hm : P.follows .mixedOrders = true) (h : wpL P .any ops Q S sts ops.size (Array.replicate ops.size false) a w.drew) : (Code.region id ops true).wp P Q a w :=
 wp_region_any hm (wpL_any _ _ _ _ h)
/-- An operation that yields in every world. -/
theorem wpL_firstT {i : Nat} {oi : Oper} {v : Value} (hi : ops[i]? = some oi) (hsel : ∀ (j : Nat) (o : Oper) cs b, ops[j]? = some o → o.op ≠ .select cs b)
  (hQ : ∀ c a w, Q (.panic c) (a.put oi.dst v) w → Q (.panic c) a w) (hist : i ∉ sts) :
  ∀ (fuel : Nat) (listed : Array Bool) (a : Act) (w : World),
   (∀ j oj, ops[j]? = some oj → j ≠ i → listed.getD j true = false → (∀ e ∈ oj.after, Region.binds md e = true → e.on ≠ i) → oi.apart ops oj = true) →
   i ∈ Region.ready md ops listed → YieldsIf P ops (fun _ => True) oi v a → (noneUp sts listed → S w) →
   wpL P md ops Q S sts fuel (listed.setIfInBounds i true) (a.put oi.dst v) w → wpL P md ops Q S sts (fuel + 1) listed a w := by
 intro fuel
 have hback : ∀ listed : Array Bool, noneUp sts (listed.setIfInBounds i true) → noneUp sts listed := fun listed h k hk => by
  have hne : i ≠ k := fun e => hist (e ▸ hk)
  have := h k hk
  rw [← this]
  simp [Array.getD_eq_getD_getElem?, hne]
 induction fuel with
 | zero =>
  intro listed a w _ hr hy hS H
  refine ⟨fun h => (by rw [h] at hr; cases hr), fun j hj => ?_⟩
  by_cases hji : j = i
  ·rw [hji]; exact hy.wpOp hi trivial ⟨fun hN => hS (hback _ hN), H⟩
  ·have := ready_mono hj hji
   rw [H.1] at this
   cases this
 | succ fuel ih =>
  intro listed a w hfree hr hy hS H
  refine ⟨fun h => (by rw [h] at hr; cases hr), fun j hj => ?_⟩
  by_cases hji : j = i
  ·rw [hji]; exact hy.wpOp hi trivial ⟨fun hN => hS (hback _ hN), H⟩
  ·have h1 := H.2 j (ready_mono hj hji)
   obtain ⟨hjun, oj, hoj, hall⟩ := mem_ready.1 hj
   have hun := (mem_ready.1 hr).1
   have hnot : ∀ e ∈ oj.after, Region.binds md e = true → e.on ≠ i := fun e he hb heq => by
    have q1 := hall e he hb
    rw [heq] at q1
    rcases Nat.lt_or_ge i listed.size with h' | h'
    ·simp [h'] at hun q1; rw [hun] at q1; cases q1
    ·simp [Array.getElem?_eq_none h'] at q1
   have h2 := wpOp_putIf hoj (hfree j oj hoj hji hjun hnot) (fun cs b => hsel i oi cs b hi) (fun cs b => hsel j oj cs b hoj) hQ hy h1
   have hS2 : ∀ w' : World, (noneUp sts ((listed.setIfInBounds i true).setIfInBounds j true) → S w') → noneUp sts (listed.setIfInBounds j true) → S w' := fun w' h hN =>
    h (by rw [Array.setIfInBounds_comm _ _ (Ne.symm hji)]; exact noneUp_set hN hist)
   refine wpOp_mono (fun a' w' h3 => ⟨hS2 w' h3.2.1, ih (listed.setIfInBounds j true) a' w' ?_ (ready_mono hr (Ne.symm hji)) h3.1 (hS2 w' h3.2.1) ?_⟩) h2
   ·intro k ok hk hki hku hno
    refine hfree k ok hk hki ?_ hno
    by_cases hjk : j = k
    ·rw [← hjk]; exact hjun
    ·rw [getD_set_ne true hjk] at hku; exact hku
   ·rw [Array.setIfInBounds_comm _ _ hji]
    exact h3.2.2
theorem wpL_takeT {i : Nat} {oi : Oper} {v : Value} {fuel : Nat} {listed : Array Bool} {a : Act} {w : World} (hi : ops[i]? = some oi)
  (hs : Region.noSelect ops = true) (hf : Region.free md ops listed i = true) (hr : (Region.ready md ops listed).contains i = true) (hni : sts.contains i = false)
  (hQ : ∀ c a w, Q (.panic c) (a.put oi.dst v) w → Q (.panic c) a w) (hy : YieldsIf P ops (fun _ => True) oi v a) (hS : noneUp sts listed → S w)
  (h : wpL P md ops Q S sts fuel (listed.setIfInBounds i true) (a.put oi.dst v) w) : wpL P md ops Q S sts (fuel + 1) listed a w :=
 wpL_firstT hi (Region.noSelect_spec hs) hQ (fun hm => by rw [List.contains_eq_mem] at hni; simp [hm] at hni) fuel listed a w (Region.free_spec hi hf) (by simpa using hr) hy hS h
end
end Go.Proofs.YtddbkcfdfgehkaaDoor.Q

-- Why a set of tasks isn't right, as plain functions (no program in sight).
namespace Go.Proofs.YtddbkcfdfgehkaaDoor.Q
open Go.RowKit Go.Proofs.YtddbkcfdfgehkaaDoorW.PrintWords Go.Proofs.YtddbkcfdfgehkaaDoorW.PrintLast Go.Proofs.YtddbkcfdfgehkaaDoorW.PrintMore
attribute [local go_sem] max2_int min2_int max_two min_two max_three min_three max_four min_four   -- for this text's walks alone
set_option linter.unusedVariables false
set_option linter.unusedSimpArgs false

abbrev TK := S40
def inB (n a b : Int) : Bool := decide (n ≥ a) && decide (n ≤ b)
def tNamed (t : TK) (ahead : List TK) : Bool := named t.f0 && !(ahead.any (fun x => x.f0.toList == t.f0.toList))
def tTimed (t : TK) : Bool := inB t.f1 1 1048576 && inB t.f2 1 t.f1 && inB t.f3 1 t.f2 && inB t.f6 0 1000
def tModed (t : TK) : Bool := if t.f9 = 1 then inB t.f5 1 t.f3 && (t.f4 == 0) else inB t.f9 2 3 && inB t.f4 1 t.f2 && (t.f5 == 0)
def tFirm (t : TK) : Bool := inB t.f8 1 64 && inB t.f7 1 t.f8
def tRanked (t : TK) (ahead : List TK) : Bool := inB t.f10 0 255 && !(ahead.any (fun x => x.f10 == t.f10))
/-- What is wrong with a task behind others; 0: nothing. -/
def whyT (t : TK) (ahead : List TK) : Int := if tNamed t ahead = false then 3 else if tTimed t = false then 4 else if tModed t = false then 5 else if tFirm t = false then 6 else if tRanked t ahead = false then 7 else 0
def whyFrom : List TK → List TK → Int → Int × Int
 | [], _, _ => (0, -1)
 | t :: r, ahead, i => if whyT t ahead = 0 then whyFrom r (ahead ++ [t]) (i + 1) else (whyT t ahead, i)
def whyS (b : Int) (ts : List TK) : Int × Int := if inB b 1 1000 = false then (1, -1) else if inB (ts.length : Int) 1 16 = false then (2, -1) else whyFrom ts [] 0
end Go.Proofs.YtddbkcfdfgehkaaDoor.Q

-- Whether a task behind others has a name, or a priority, of its own: walked by hand.
namespace Go.Proofs.YtddbkcfdfgehkaaDoor.Q
open Go.RowKit Go.Proofs.YtddbkcfdfgehkaaDoorW.PrintWords Go.Proofs.YtddbkcfdfgehkaaDoorW.PrintLast Go.Proofs.YtddbkcfdfgehkaaDoorW.PrintMore
attribute [local go_sem] max2_int min2_int max_two min_two max_three min_three max_four min_four   -- for this text's walks alone
set_option linter.unusedVariables false
set_option linter.unusedSimpArgs false

def tkC (x : TK) : Array Value := #[.string x.f0, .int .i64 x.f1, .int .i64 x.f2, .int .i64 x.f3, .int .i64 x.f4, .int .i64 x.f5, .int .i64 x.f6, .int .i64 x.f7, .int .i64 x.f8, .int .i64 x.f9, .int .i64 x.f10]
def tkV (x : TK) : Value := .agg (tkC x)
set_option maxHeartbeats 1000000 in
set_option maxRecDepth 100000 in
theorem index_any (W : World) (A : Option Addr) (c : Nat) (xs : List TK) (cb : Array Value) (pr : TK → Bool) (g : Nat) (eg : ∀ args w, (callFunc g args).run Tryd.prog w = .ok (.enter g args) w) (hxs : Kd.C k40 W A xs.length xs) (hc : xs.length ≤ c) (hlen : xs.length ≤ 1000000)
  (hcmp : ∀ x, ∀ W', Below W.heap.size W W' → Calls Tryd.prog g (#[tkV x] ++ cb) W' fun e w' => e = .returned (.bool (pr x)) ∧ Below W'.heap.size W' w') :
  Calls Tryd.prog 58 #[.slice A xs.length c, .func (.func g) #[] cb] W fun e w' => ∃ r : Int, e = .returned (.int .i64 r) ∧ (decide (r ≥ 0) = xs.any pr) ∧ Below W.heap.size W w' := by
 have HC := Aside0.mk hcmp
 have HX := Aside0.mk hxs
 clear hcmp hxs
 go_enter Tryd.func58, Tryd.ntmps58
 go_wp2
 go_loopg [8] xs.length (fun kx v8 wr => ∃ i : Nat, v8 = .int .i64 i ∧ i + kx = xs.length ∧ Aside0 ((xs.take i).any pr = false) ∧ Aside0 (Below W.heap.size W wr))
 case atStart => exact ⟨0, rfl, by omega, ⟨by simp⟩, ⟨Below.refl _ _⟩⟩
 case round =>
  obtain ⟨i, rfl, hik, HN, HB⟩ := hrel
  by_cases hlt : i < xs.length
  ·have hd : decide ((i : Int) < (xs.length : Int)) = true := by simp; omega
   obtain ⟨ad, e, x0, x1, x2, x3, x4, x5, x6, x7, x8, x9, x10⟩ := at_T40 (Kd.C_below HX.out HB.out) (i : Int) (by omega) (by omega)
   cases e
   simp only [Int.toNat_natCast] at x0 x1 x2 x3 x4 x5 x6 x7 x8 x9 x10
   obtain ⟨x, hx⟩ : ∃ x, rd_T40 xs (i : Int) = x := ⟨_, rfl⟩
   have HXI : Aside0 (xs[i]? = some x) := ⟨by rw [← hx]; simp [rd_T40, List.getD_eq_getElem?_getD, List.getElem?_eq_getElem hlt]⟩
   rw [hx] at x0 x1 x2 x3 x4 x5 x6 x7 x8 x9 x10
   have hcl := HC.out x wr HB.out
   have p0 : (0 : Int) ≤ i := by omega
   have p1 : (i : Int) < (xs.length : Int) := by omega
   clear hx
   go_wp2
   refine hcl.mono ?_
   rintro e w' ⟨rfl, hb⟩
   have HB2 := Aside0.mk (below_step HB.out hb)
   cases hp : pr x with
   | true =>
    have HA : Aside0 (xs.any pr = true) := ⟨List.any_eq_true.2 ⟨x, List.mem_of_getElem? HXI.out, hp⟩⟩
    clear hcl hb HB hp
    go_wp2
    go_ret
    exact ⟨i, rfl, by rw [HA.out]; simp, HB2.out⟩
   | false =>
    have HN2 : Aside0 ((xs.take (i + 1)).any pr = false) := ⟨by
     have h := HXI.out
     rw [List.getElem?_eq_getElem hlt] at h
     rw [List.take_succ_eq_append_getElem hlt, List.any_append, HN.out, Option.some.inj h]
     simp [hp]⟩
    clear hcl hb HB hp HN
    go_wp2
    go_roundg (xs.length - (i + 1))
    case measure => omega
    case rel => exact ⟨i + 1, by first | rfl | simp, by omega, HN2, HB2⟩
  ·have hd : decide ((i : Int) < (xs.length : Int)) = false := by simp; omega
   have HA : Aside0 (xs.any pr = false) := ⟨by have := HN.out; rwa [List.take_of_length_le (by omega)] at this⟩
   go_wp2
   go_ret
   exact ⟨-1, rfl, by rw [HA.out]; rfl, HB.out⟩
set_option maxHeartbeats 1000000 in
set_option maxRecDepth 100000 in
theorem contains_any (W : World) (A : Option Addr) (c : Nat) (xs : List TK) (cb : Array Value) (pr : TK → Bool) (g : Nat) (eg : ∀ args w, (callFunc g args).run Tryd.prog w = .ok (.enter g args) w) (hxs : Kd.C k40 W A xs.length xs) (hc : xs.length ≤ c) (hlen : xs.length ≤ 1000000)
  (hcmp : ∀ x, ∀ W', Below W.heap.size W W' → Calls Tryd.prog g (#[tkV x] ++ cb) W' fun e w' => e = .returned (.bool (pr x)) ∧ Below W'.heap.size W' w') :
  Calls Tryd.prog 54 #[.slice A xs.length c, .func (.func g) #[] cb] W fun e w' => e = .returned (.bool (xs.any pr)) ∧ Below W.heap.size W w' := by
 have H := Aside0.mk (index_any W A c xs cb pr g eg hxs hc hlen hcmp)
 clear hxs hcmp
 go_enter Tryd.func54, Tryd.ntmps54
 go_wp2_with fail
 refine H.out.mono ?_
 rintro e w' ⟨r, rfl, hr, hb⟩
 have HB := Aside0.mk hb
 have HR := Aside0.mk hr
 clear hb hr H
 go_wp2_with fail
 go_ret
 exact ⟨by rw [← HR.out]; rfl, HB.out⟩
set_option maxHeartbeats 1000000 in
set_option maxRecDepth 100000 in
theorem named_same (t x : TK) (b : Nat) (W : World) (hb : W.heap[b]? = some (.cells (tkC t) 40 (0, 0))) :
  Calls Tryd.prog 55 (#[tkV x] ++ #[.pointer (some ⟨b, 0, none⟩)]) W fun e w' => e = .returned (.bool (x.f0.toList == t.f0.toList)) ∧ Below W.heap.size W w' := by
 have HB := Aside0.mk (Below.refl W.heap.size W)
 have x0 : ∀ o, (W.alloc o).cell? ⟨b, 0, none⟩ = some (.string t.f0) := fun o => blk_cell (blk_alloc hb o) 0
 clear hb
 unfold tkV tkC
 go_enter Tryd.func55, Tryd.ntmps55
 go_wp2
 go_ret
 exact ⟨rfl, by repeat (first | exact HB.out | apply below_drew | apply below_alloc)⟩
set_option maxHeartbeats 1000000 in
set_option maxRecDepth 100000 in
theorem ranked_same (t x : TK) (b : Nat) (W : World) (hb : W.heap[b]? = some (.cells (tkC t) 40 (0, 0))) :
  Calls Tryd.prog 56 (#[tkV x] ++ #[.pointer (some ⟨b, 0, none⟩)]) W fun e w' => e = .returned (.bool (x.f10 == t.f10)) ∧ Below W.heap.size W w' := by
 have HB := Aside0.mk (Below.refl W.heap.size W)
 have x0 : ∀ o, (W.alloc o).cell? ⟨b, 10, none⟩ = some (.int .i64 t.f10) := fun o => blk_cell (blk_alloc hb o) 10
 clear hb
 unfold tkV tkC
 go_enter Tryd.func56, Tryd.ntmps56
 go_wp2
 go_ret
 exact ⟨rfl, by repeat (first | exact HB.out | apply below_drew | apply below_alloc)⟩
end Go.Proofs.YtddbkcfdfgehkaaDoor.Q

-- What parse reads, token by token, as plain functions (no program in sight).
namespace Go.Proofs.YtddbkcfdfgehkaaDoor.Q
open Go.RowKit Go.Proofs.YtddbkcfdfgehkaaDoorW.PrintWords Go.Proofs.YtddbkcfdfgehkaaDoorW.PrintLast Go.Proofs.YtddbkcfdfgehkaaDoorW.PrintMore
attribute [local go_sem] max2_int min2_int max_two min_two max_three min_three max_four min_four   -- for this text's walks alone
set_option linter.unusedVariables false
set_option linter.unusedSimpArgs false

abbrev TOK := S46
structure PS where
 l : List TOK
 e : Int
 ln : Int
 cl : Int
 b : Int
 ts : List TK
 bt : TOK
 hs : List TOK
def PS.now (p : PS) : TOK := p.l.headD z46
def PS.fail (p : PS) : PS := if p.e = 0 then { p with e := 5, ln := p.now.f3, cl := p.now.f4 } else p
/-- Whether the next token is taken. -/
def PS.fits (p : PS) (kind : Int) (texts : List ByteArray) : Bool := (p.e == 0) && (p.now.f0 == kind) && (texts.isEmpty || texts.any (fun x => x.toList == p.now.f1.toList))
def PS.take (p : PS) (kind : Int) (texts : List ByteArray) : PS × TOK := if p.fits kind texts = true then ({ p with l := p.l.tail }, p.now) else (p.fail, z46)
def PS.num (p : PS) : PS × Int := ((p.take 2 []).1, (p.take 2 []).2.f2)
def PS.nums : Nat → PS → PS × List Int
 | 0, p => (p, [])
 | n + 1, p => ((PS.nums n p).1.num.1, (PS.nums n p).2 ++ [(PS.nums n p).1.num.2])
def PS.fin (p : PS) : PS := if p.e = 0 ∧ p.now.f0 = 4 then p else (p.take 3 []).1
def PS.blank (p : PS) : PS := { p with l := p.l.dropWhile (fun t => t.f0 == 3) }
def wTask : ByteArray := ⟨#[116, 97, 115, 107]⟩
def wBurst : ByteArray := ⟨#[98, 117, 114, 115, 116]⟩
def wRetry : ByteArray := ⟨#[114, 101, 116, 114, 121]⟩
def wBlock : ByteArray := ⟨#[98, 108, 111, 99, 107]⟩
def wBackup : ByteArray := ⟨#[98, 97, 99, 107, 117, 112]⟩
def modeOf (s : ByteArray) : Int := if s = wRetry then 1 else if s = wBlock then 2 else if s = wBackup then 3 else 0
def PS.first (p : PS) : PS :=
 let p1 := (p.take 1 [wBurst]).1
 let p2 := { p1 with bt := p1.now }
 { p2.num.1 with b := p2.num.2 }.fin
def PS.one (p : PS) : PS :=
 let p1 := { p with hs := p.hs ++ [p.now] }
 let p2 := (p1.take 1 [wTask]).1
 let p3 := p2.take 1 []
 let p4 := PS.nums 3 p3.1
 let p5 := p4.1.take 1 [wRetry, wBlock, wBackup]
 let p6 := PS.nums 6 p5.1
 let n := fun i => p4.2.getD i 0
 let m := fun i => p6.2.getD i 0
 let p7 := p6.1.fin
 { p7 with ts := p7.ts ++ [⟨p3.2.f1, n 0, n 1, n 2, m 0, m 1, m 2, m 3, m 4, modeOf p5.2.f1, m 5⟩] }
/-- Where a set isn't right: an error, a line, a column. -/
def PS.wrong (p : PS) : Int × Int × Int :=
 let w := whyS p.b p.ts
 let t := if w.1 = 1 then p.bt else if w.1 = 2 then (if 0 < p.hs.length then p.hs.getD 16 z46 else p.now) else p.hs.getD w.2.toNat z46
 if w.1 = 0 then (0, 0, 0) else (1, t.f3, t.f4)
def PS.go : Nat → PS → PS
 | 0, q => q
 | n + 1, q => if q.e = 0 ∧ q.now.f0 ≠ 4 then PS.go n q.one.blank else q
def PS.init (l : List TOK) : PS := ⟨l, 0, 0, 0, 0, [], z46, []⟩
/-- What parse.Set tells of tokens. -/
def parseToks (l : List TOK) : Int × List TK × Int × Int × Int :=
 let p := PS.go l.length (PS.init l).blank.first.blank
 let r := if p.e = 0 then p.wrong else (p.e, p.ln, p.cl)
 if r.1 = 0 then (p.b, p.ts, 0, 0, 0) else (0, [], r)
end Go.Proofs.YtddbkcfdfgehkaaDoor.Q

-- The parser goes on with fewer tokens, or fails (no program in sight).
namespace Go.Proofs.YtddbkcfdfgehkaaDoor.Q
open Go.RowKit Go.Proofs.YtddbkcfdfgehkaaDoorW.PrintWords Go.Proofs.YtddbkcfdfgehkaaDoorW.PrintLast Go.Proofs.YtddbkcfdfgehkaaDoorW.PrintMore
attribute [local go_sem] max2_int min2_int max_two min_two max_three min_three max_four min_four   -- for this text's walks alone
set_option linter.unusedVariables false
set_option linter.unusedSimpArgs false

theorem take_len (q : PS) (k : Int) (tx : List ByteArray) : (q.take k tx).1.l.length ≤ q.l.length := by
 unfold PS.take PS.fail
 split
 ·simp
 ·split <;> simp
theorem take_e (q : PS) (k : Int) (tx : List ByteArray) (h : q.e ≠ 0) : (q.take k tx).1.e ≠ 0 := by
 unfold PS.take PS.fits PS.fail
 have : (q.e == 0) = false := beq_eq_false_iff_ne.2 h
 rw [this]
 simp [h]
theorem take_lt (q : PS) (k : Int) (tx : List ByteArray) (hl : q.l ≠ []) (h : (q.take k tx).1.e = 0) : (q.take k tx).1.l.length < q.l.length := by
 have hp := List.length_pos_iff.2 hl
 unfold PS.take at h ⊢
 split
 ·simp; omega
 ·rename_i hf
  rw [if_neg hf] at h
  unfold PS.fail at h
  split at h
  ·exact absurd h (by show ¬ (5 : Int) = 0; omega)
  ·rename_i hn; exact absurd h hn
theorem take_hs (q : PS) (k : Int) (tx : List ByteArray) : (q.take k tx).1.hs = q.hs ∧ (q.take k tx).1.ts = q.ts ∧ (q.take k tx).1.b = q.b ∧ (q.take k tx).1.bt = q.bt := by
 unfold PS.take PS.fail
 split
 ·exact ⟨rfl, rfl, rfl, rfl⟩
 ·split <;> exact ⟨rfl, rfl, rfl, rfl⟩
theorem nums_len2 (n : Nat) (q : PS) : (PS.nums n q).1.l.length ≤ q.l.length := by
 induction n with
 | zero => exact Nat.le_refl _
 | succ n ih => exact Nat.le_trans (take_len _ 2 []) ih
theorem nums_e (n : Nat) (q : PS) (h : q.e ≠ 0) : (PS.nums n q).1.e ≠ 0 := by
 induction n with
 | zero => exact h
 | succ n ih => exact take_e _ 2 [] ih
theorem nums_hs (n : Nat) (q : PS) : (PS.nums n q).1.hs = q.hs ∧ (PS.nums n q).1.ts = q.ts := by
 induction n with
 | zero => exact ⟨rfl, rfl⟩
 | succ n ih =>
  have h := take_hs (PS.nums n q).1 2 []
  exact ⟨h.1.trans ih.1, h.2.1.trans ih.2⟩
theorem fin_len (q : PS) : q.fin.l.length ≤ q.l.length := by
 unfold PS.fin
 split
 ·exact Nat.le_refl _
 ·exact take_len _ 3 []
theorem fin_e (q : PS) (h : q.e ≠ 0) : q.fin.e ≠ 0 := by
 unfold PS.fin
 split
 ·exact h
 ·exact take_e _ 3 [] h
theorem fin_hs (q : PS) : q.fin.hs = q.hs ∧ q.fin.ts = q.ts := by
 unfold PS.fin
 split
 ·exact ⟨rfl, rfl⟩
 ·exact ⟨(take_hs q 3 []).1, (take_hs q 3 []).2.1⟩
theorem blank_len (q : PS) : q.blank.l.length ≤ q.l.length := by
 unfold PS.blank
 have : ∀ l : List TOK, (l.dropWhile (fun t => t.f0 == 3)).length ≤ l.length := by
  intro l
  induction l with
  | nil => exact Nat.le_refl _
  | cons a r ih =>
   rw [List.dropWhile_cons]
   split
   ·exact Nat.le_trans ih (by simp)
   ·exact Nat.le_refl _
 exact this _
theorem one_hs (q : PS) : q.one.hs.length = q.hs.length + 1 ∧ q.one.ts.length = q.ts.length + 1 := by
 unfold PS.one
 constructor
 ·simp only
  rw [(fin_hs _).1, (nums_hs _ _).1, (take_hs _ _ _).1, (nums_hs _ _).1, (take_hs _ _ _).1, (take_hs _ _ _).1]
  simp
 ·simp only [List.length_append, List.length_cons, List.length_nil]
  rw [(fin_hs _).2, (nums_hs _ _).2, (take_hs _ _ _).2.1, (nums_hs _ _).2, (take_hs _ _ _).2.1, (take_hs _ _ _).2.1]
theorem one_len (q : PS) (hl : q.l ≠ []) (h : q.one.e = 0) : q.one.l.length < q.l.length := by
 obtain ⟨p1, hp1⟩ : ∃ p1 : PS, { q with hs := q.hs ++ [q.now] } = p1 := ⟨_, rfl⟩
 have hl1 : p1.l = q.l := by rw [← hp1]
 have key : (p1.take 1 [wTask]).1.e = 0 := by
  rcases Decidable.em ((p1.take 1 [wTask]).1.e = 0) with h0 | h0
  ·exact h0
  ·refine absurd h ?_
   unfold PS.one
   simp only [hp1]
   exact fin_e _ (nums_e _ _ (take_e _ _ _ (nums_e _ _ (take_e _ _ _ h0))))
 have h2 := take_lt p1 1 [wTask] (by rw [hl1]; exact hl) key
 rw [hl1] at h2
 refine Nat.lt_of_le_of_lt ?_ h2
 unfold PS.one
 simp only [hp1]
 exact Nat.le_trans (fin_len _) (Nat.le_trans (nums_len2 _ _) (Nat.le_trans (take_len _ _ _) (Nat.le_trans (nums_len2 _ _) (take_len _ _ _))))
theorem first_hs (q : PS) : q.first.hs = q.hs ∧ q.first.ts = q.ts := by
 unfold PS.first
 simp only
 constructor
 ·rw [(fin_hs _).1]; show ((_ : PS).take 2 []).1.hs = _; rw [(take_hs _ _ _).1]; exact (take_hs _ _ _).1
 ·rw [(fin_hs _).2]; show ((_ : PS).take 2 []).1.ts = _; rw [(take_hs _ _ _).2.1]; exact (take_hs _ _ _).2.1
theorem first_len (q : PS) : q.first.l.length ≤ q.l.length := by
 unfold PS.first
 simp only
 refine Nat.le_trans (fin_len _) ?_
 show ((_ : PS).take 2 []).1.l.length ≤ _
 exact Nat.le_trans (take_len _ _ _) (take_len _ _ _)
theorem go_done (n : Nat) (q : PS) (h : ¬ (q.e = 0 ∧ q.now.f0 ≠ 4)) : PS.go n q = q := by
 cases n with
 | zero => rfl
 | succ n => rw [PS.go, if_neg h]
end Go.Proofs.YtddbkcfdfgehkaaDoor.Q

-- What a right set is, task by task (no program in sight).
namespace Go.Proofs.YtddbkcfdfgehkaaDoor.Q
open Go.RowKit Go.Proofs.YtddbkcfdfgehkaaDoorW.PrintWords Go.Proofs.YtddbkcfdfgehkaaDoorW.PrintLast Go.Proofs.YtddbkcfdfgehkaaDoorW.PrintMore
attribute [local go_sem] max2_int min2_int max_two min_two max_three min_three max_four min_four   -- for this text's walks alone
set_option linter.unusedVariables false
set_option linter.unusedSimpArgs false

theorem whyT_zero {t : TK} {a : List TK} : whyT t a = 0 ↔ tNamed t a = true ∧ tTimed t = true ∧ tModed t = true ∧ tFirm t = true ∧ tRanked t a = true := by
 unfold whyT
 cases tNamed t a <;> cases tTimed t <;> cases tModed t <;> cases tFirm t <;> cases tRanked t a <;> simp
theorem whyFrom_zero : ∀ (l a : List TK) (i : Int), (whyFrom l a i).1 = 0 ↔ ∀ j (h : j < l.length), whyT l[j] (a ++ l.take j) = 0
 | [], a, i => by simp [whyFrom]
 | t :: r, a, i => by
  rw [whyFrom]
  by_cases h : whyT t a = 0
  ·rw [if_pos h, whyFrom_zero r (a ++ [t]) (i + 1)]
   constructor
   ·intro hr j hj
    cases j with
    | zero => simpa using h
    | succ j => have := hr j (by simpa using hj); simpa using this
   ·intro hr j hj
    have := hr (j + 1) (by simpa using hj)
    simpa using this
  ·rw [if_neg h]
   constructor
   ·intro h0; exact absurd h0 h
   ·intro hr; have := hr 0 (by simp); exact absurd (by simpa using this) h
/-- A right set. -/
structure RightS (b : Int) (ts : List TK) : Prop where
 b0 : 1 ≤ b
 b1 : b ≤ 1000
 n0 : 1 ≤ ts.length
 n1 : ts.length ≤ 16
 each : ∀ j (h : j < ts.length), whyT ts[j] (ts.take j) = 0
theorem rightS_iff (b : Int) (ts : List TK) : (whyS b ts).1 = 0 ↔ RightS b ts := by
 unfold whyS
 constructor
 ·intro h
  split at h
  ·exact absurd h (by show ¬ (1 : Int) = 0; decide)
  ·rename_i h1
   split at h
   ·exact absurd h (by show ¬ (2 : Int) = 0; decide)
   ·rename_i h2
    unfold inB at h1 h2
    simp at h1 h2
    have := (whyFrom_zero ts [] 0).1 h
    exact ⟨h1.1, h1.2, by omega, by omega, fun j hj => by have := this j hj; simpa using this⟩
 ·intro h
  have h1 := h.b0; have h2 := h.b1; have h3 := h.n0; have h4 := h.n1
  rw [if_neg (by unfold inB; simp; omega), if_neg (by unfold inB; simp; omega)]
  exact (whyFrom_zero ts [] 0).2 (fun j hj => by have := h.each j hj; simpa using this)
/-- What is known of one task. -/
structure RightT (t : TK) : Prop where
 named : named t.f0 = true
 timed : 1 ≤ t.f1 ∧ t.f1 ≤ 1048576 ∧ 1 ≤ t.f2 ∧ t.f2 ≤ t.f1 ∧ 1 ≤ t.f3 ∧ t.f3 ≤ t.f2 ∧ 0 ≤ t.f6 ∧ t.f6 ≤ 1000
 modeA : 1 ≤ t.f9 ∧ t.f9 ≤ 3
 mode1 : t.f9 = 1 → 1 ≤ t.f5 ∧ t.f5 ≤ t.f3 ∧ t.f4 = 0
 mode2 : t.f9 ≠ 1 → 1 ≤ t.f4 ∧ t.f4 ≤ t.f2 ∧ t.f5 = 0
 firm : 1 ≤ t.f8 ∧ t.f8 ≤ 64 ∧ 1 ≤ t.f7 ∧ t.f7 ≤ t.f8
 prio : 0 ≤ t.f10 ∧ t.f10 ≤ 255
theorem rightT_iff {t : TK} {a : List TK} : whyT t a = 0 ↔ RightT t ∧ (∀ x ∈ a, x.f0 ≠ t.f0) ∧ (∀ x ∈ a, x.f10 ≠ t.f10) := by
 have hba : ∀ x y : ByteArray, (x.toList == y.toList) = decide (x = y) := by
  intro x y
  rw [Bool.eq_iff_iff, beq_iff_eq, decide_eq_true_iff, Lib.toList_data, Lib.toList_data]
  constructor
  ·intro h
   cases x; cases y
   simp only [ByteArray.mk.injEq]
   exact Array.ext' h
  ·rintro rfl; rfl
 rw [whyT_zero]
 unfold tNamed tTimed tModed tFirm tRanked inB
 simp only [hba, Bool.and_eq_true, Bool.not_eq_true', List.any_eq_false, decide_eq_true_eq, beq_iff_eq]
 constructor
 ·rintro ⟨⟨h1, h2⟩, ⟨⟨⟨h3, h4⟩, h5⟩, h6⟩, h7, ⟨h8, h9⟩, h10, h11⟩
  by_cases hm : t.f9 = 1
  ·rw [if_pos hm] at h7
   simp only [Bool.and_eq_true, decide_eq_true_eq, beq_iff_eq] at h7
   exact ⟨⟨h1, by omega, by omega, fun _ => by omega, fun h => absurd hm h, by omega, by omega⟩, h2, h11⟩
  ·rw [if_neg hm] at h7
   simp only [Bool.and_eq_true, decide_eq_true_eq, beq_iff_eq] at h7
   exact ⟨⟨h1, by omega, by omega, fun h => absurd h hm, fun _ => by omega, by omega, by omega⟩, h2, h11⟩
 ·rintro ⟨h, h2, h11⟩
  have g1 := h.timed; have g2 := h.modeA; have g3 := h.mode1; have g4 := h.mode2; have g5 := h.firm; have g6 := h.prio
  refine ⟨⟨h.named, h2⟩, by omega, ?_, by omega, by omega, h11⟩
  by_cases hm : t.f9 = 1
  ·have := g3 hm
   rw [if_pos hm]
   simp only [Bool.and_eq_true, decide_eq_true_eq, beq_iff_eq]; omega
  ·have := g4 hm
   rw [if_neg hm]
   simp only [Bool.and_eq_true, decide_eq_true_eq, beq_iff_eq]; omega
theorem RightS.task {b : Int} {ts : List TK} (h : RightS b ts) {t : TK} (ht : t ∈ ts) : RightT t := by
 obtain ⟨j, hj, rfl⟩ := List.mem_iff_getElem.1 ht
 exact (rightT_iff.1 (h.each j hj)).1
theorem RightS.apart {b : Int} {ts : List TK} (h : RightS b ts) (i j : Nat) (hi : i < ts.length) (hj : j < ts.length) (hij : i ≠ j) : ts[i].f0 ≠ ts[j].f0 ∧ ts[i].f10 ≠ ts[j].f10 := by
 have key : ∀ i j (hi : i < ts.length) (hj : j < ts.length), i < j → ts[i].f0 ≠ ts[j].f0 ∧ ts[i].f10 ≠ ts[j].f10 := by
  intro i j hi hj hij
  have h1 := (rightT_iff.1 (h.each j hj)).2
  have hm : ts[i] ∈ ts.take j := by
   rw [List.mem_take_iff_getElem]
   exact ⟨i, by omega, rfl⟩
  exact ⟨h1.1 _ hm, h1.2 _ hm⟩
 rcases Nat.lt_or_gt_of_ne hij with h1 | h1
 ·exact key i j hi hj h1
 ·have := key j i hj hi h1
  exact ⟨fun e => this.1 e.symm, fun e => this.2 e.symm⟩
end Go.Proofs.YtddbkcfdfgehkaaDoor.Q

-- Written for this claim by the session's own driver (wip/qprint.py) over the kit's printer, out of the translation. Not trusted: Lean checks it.
namespace Go.Proofs.YtddbkcfdfgehkaaDoor.Q
open Go.RowKit Go.Proofs.YtddbkcfdfgehkaaDoorW.PrintWords Go.Proofs.YtddbkcfdfgehkaaDoorW.PrintLast Go.Proofs.YtddbkcfdfgehkaaDoorW.PrintMore
attribute [local go_sem] max2_int min2_int max_two min_two max_three min_three max_four min_four   -- for this text's walks alone
set_option linter.unusedVariables false
set_option linter.unusedSimpArgs false

theorem eqA29 (d : Nat) (w : World) (x0 y0 : Int) (x1 y1 : Int) (x2 y2 : Int) :
  (Op.equalIn (d + 2) 29 (.agg #[.int .i64 x0, .int .i64 x1, .int .i64 x2]) (.agg #[.int .i64 y0, .int .i64 y1, .int .i64 y2])).run Tryd.prog w = .ok (x0 == y0 && (x1 == y1 && (x2 == y2))) w := by
 refine eqA_of Tryd.underlying29 (by kernel_rfl) ?_
 refine eqf_cons (by rfl) (by go_simp; rfl) (by go_simp; rfl) (by go_simp) ?_
 refine eqf_cons (by rfl) (by go_simp; rfl) (by go_simp; rfl) (by go_simp) ?_
 exact eqf_last (by rfl) (by go_simp; rfl) (by go_simp; rfl) (by go_simp)
end Go.Proofs.YtddbkcfdfgehkaaDoor.Q

-- Written for this claim by the session's own driver (wip/qprint.py) over the kit's printer, out of the translation. Not trusted: Lean checks it.
namespace Go.Proofs.YtddbkcfdfgehkaaDoor.Q
open Go.RowKit Go.Proofs.YtddbkcfdfgehkaaDoorW.PrintWords Go.Proofs.YtddbkcfdfgehkaaDoorW.PrintLast Go.Proofs.YtddbkcfdfgehkaaDoorW.PrintMore
attribute [local go_sem] max2_int min2_int max_two min_two max_three min_three max_four min_four   -- for this text's walks alone
set_option linter.unusedVariables false
set_option linter.unusedSimpArgs false

/-! ### pendulumref03_Named: function 37 -/
mutual
def pendulumref03_Named.j0 : Nat → ByteArray → Bool → Option (Bool)
 | 0, _, _ => none
 | k + 1, x0, x22 => if x22 = true then (some false) else (pendulumref03_Named.l0 k x0 1)
def pendulumref03_Named.l0 : Nat → ByteArray → Int → Option (Bool)
 | 0, _, _ => none
 | k + 1, x0, x3 => if x3 < (x0.size : Int) then (if 0 ≤ x3 then (if (bt x0 x3) ≥ 97 then (if (bt x0 x3) ≤ 122 then (pendulumref03_Named.l0 k x0 (wrap64 (x3 + 1))) else (if (bt x0 x3) ≥ 48 then (if (bt x0 x3) ≤ 57 then (pendulumref03_Named.l0 k x0 (wrap64 (x3 + 1))) else (if ((bt x0 x3) = 95) then (pendulumref03_Named.l0 k x0 (wrap64 (x3 + 1))) else (some false))) else (if ((bt x0 x3) = 95) then (pendulumref03_Named.l0 k x0 (wrap64 (x3 + 1))) else (some false)))) else (if (bt x0 x3) ≥ 48 then (if (bt x0 x3) ≤ 57 then (pendulumref03_Named.l0 k x0 (wrap64 (x3 + 1))) else (if ((bt x0 x3) = 95) then (pendulumref03_Named.l0 k x0 (wrap64 (x3 + 1))) else (some false))) else (if ((bt x0 x3) = 95) then (pendulumref03_Named.l0 k x0 (wrap64 (x3 + 1))) else (some false)))) else (none)) else (some true)
end
def pendulumref03_Named.f (k : Nat) (a0 : ByteArray) : Option (Bool) := if (a0.size : Int) < 1 then (pendulumref03_Named.j0 k a0 true) else (if (a0.size : Int) > 12 then (pendulumref03_Named.j0 k a0 true) else (if 0 < (a0.size : Int) then (if (bt a0 0) < 97 then (pendulumref03_Named.j0 k a0 true) else (pendulumref03_Named.j0 k a0 (decide ((bt a0 0) > 122)))) else (none)))
theorem pendulumref03_Named.mono_l : ∀ k, (∀ y0 y1, LeO (pendulumref03_Named.j0 k y0 y1) (pendulumref03_Named.j0 (k + 1) y0 y1)) ∧ (∀ y0 y1, LeO (pendulumref03_Named.l0 k y0 y1) (pendulumref03_Named.l0 (k + 1) y0 y1))
 | 0 => ⟨fun _ _ r h => by simp [pendulumref03_Named.j0] at h, fun _ _ r h => by simp [pendulumref03_Named.l0] at h⟩
 | k + 1 => by
  obtain ⟨ih0, ih1⟩ := pendulumref03_Named.mono_l k
  refine ⟨?_, ?_⟩
  ·intro y0 y1
   unfold pendulumref03_Named.j0
   repeat' first
   | (with_reducible exact ih0 _ _)
   | (with_reducible exact ih1 _ _)
   | (with_reducible exact LeO.refl _)
   | (with_reducible exact LeO.none _)
   | (with_reducible refine LeO.ite ?_ ?_)
   | (with_reducible refine LeO.bind ?_ (fun _ => ?_))
   | exact ih0 _ _
   | exact ih1 _ _
   | exact LeO.none _
   | refine LeO.ite ?_ ?_
   | refine LeO.bind ?_ (fun _ => ?_)
  ·intro y0 y1
   unfold pendulumref03_Named.l0
   repeat' first
   | (with_reducible exact ih0 _ _)
   | (with_reducible exact ih1 _ _)
   | (with_reducible exact LeO.refl _)
   | (with_reducible exact LeO.none _)
   | (with_reducible refine LeO.ite ?_ ?_)
   | (with_reducible refine LeO.bind ?_ (fun _ => ?_))
   | exact ih0 _ _
   | exact ih1 _ _
   | exact LeO.none _
   | refine LeO.ite ?_ ?_
   | refine LeO.bind ?_ (fun _ => ?_)
theorem pendulumref03_Named.mono : ∀ a0 k, LeO (pendulumref03_Named.f k a0) (pendulumref03_Named.f (k + 1) a0) := by
 intro a0 k
 obtain ⟨ih0, ih1⟩ := pendulumref03_Named.mono_l k
 unfold pendulumref03_Named.f
 repeat' first
   | (with_reducible exact ih0 _ _)
   | (with_reducible exact ih1 _ _)
   | (with_reducible exact LeO.refl _)
   | (with_reducible exact LeO.none _)
   | (with_reducible refine LeO.ite ?_ ?_)
   | (with_reducible refine LeO.bind ?_ (fun _ => ?_))
   | exact ih0 _ _
   | exact ih1 _ _
   | exact LeO.none _
   | refine LeO.ite ?_ ?_
   | refine LeO.bind ?_ (fun _ => ?_)
set_option maxHeartbeats 8000000 in
set_option maxRecDepth 100000 in
theorem pendulumref03_Named.calls (k : Nat) (a0 : ByteArray) (r : Bool) (w : World) (h : pendulumref03_Named.f k a0 = some r) :
  Calls Tryd.prog 37 #[.string a0] w fun e w' => e = .returned (.bool r) ∧ Drawn0 w w' := by
 have H : (if (a0.size : Int) < 1 then (pendulumref03_Named.j0 k a0 true) else (if (a0.size : Int) > 12 then (pendulumref03_Named.j0 k a0 true) else (if 0 < (a0.size : Int) then (if (bt a0 0) < 97 then (pendulumref03_Named.j0 k a0 true) else (pendulumref03_Named.j0 k a0 (decide ((bt a0 0) > 122)))) else (none)))) = some r := h
 clear h
 have HC2 := Aside0.mk H
 clear H
 go_enter Tryd.func37, Tryd.ntmps37
 go_upto_region 1 with (fail)
 go_cut [22] (fun v22 wc => ∃ (kq : Nat) (x22_1 : Bool), v22 = .bool x22_1 ∧ Aside0 (pendulumref03_Named.j0 kq a0 x22_1 = some r) ∧ Aside0 (kq ≤ k) ∧ Drawn0 w wc)
 case first =>
  have H := HC2.out
  clear HC2
  by_cases c3 : (a0.size : Int) < 1
  ·rw [if_pos c3] at H
   have c3b0 : decide ((a0.size : Int) < 1) = true := decide_eq_true c3
   have c3b1 : decide (a0.size < 1) = true := decide_eq_true (by omega)
   clear c3
   (first | rw [c3b0] | (simp only [i64_w, i32_w]; rw [c3b0]) | skip)
   have H' := Aside0.mk H
   clear H
   go_wp2
   go_meet
   case rel => exact ⟨_, (true), (by first | rfl | (simp; done) | (simp [*]; done)), H', ⟨by first | omega | exact Nat.le_refl _⟩, by repeat (first | exact Drawn0.refl _ | apply Drawn0.step)⟩
  ·rw [if_neg c3] at H
   have c3b0 : decide ((a0.size : Int) < 1) = false := decide_eq_false c3
   have c3b1 : decide (a0.size < 1) = false := decide_eq_false (by omega)
   clear c3
   (first | rw [c3b0] | (simp only [i64_w, i32_w]; rw [c3b0]) | skip)
   by_cases c4 : (a0.size : Int) > 12
   ·rw [if_pos c4] at H
    have c4b0 : decide (12 < (a0.size : Int)) = true := decide_eq_true c4
    have c4b1 : decide (12 < a0.size) = true := decide_eq_true (by omega)
    clear c4
    have H' := Aside0.mk H
    clear H
    go_wp2
    go_meet
    case rel => exact ⟨_, (true), (by first | rfl | (simp; done) | (simp [*]; done)), H', ⟨by first | omega | exact Nat.le_refl _⟩, by repeat (first | exact Drawn0.refl _ | apply Drawn0.step)⟩
   ·rw [if_neg c4] at H
    have c4b0 : decide (12 < (a0.size : Int)) = false := decide_eq_false c4
    have c4b1 : decide (12 < a0.size) = false := decide_eq_false (by omega)
    clear c4
    by_cases c5 : 0 < (a0.size : Int)
    ·rw [if_pos c5] at H
     have c5b0 : decide (0 < (a0.size : Int)) = true := decide_eq_true c5
     have c5b1 : decide (0 < a0.size) = true := decide_eq_true (by omega)
     clear c5
     by_cases c7 : (bt a0 0) < 97
     ·rw [if_pos c7] at H
      have c7b0 : decide ((bt a0 0) < 97) = true := decide_eq_true c7
      clear c7
      have H' := Aside0.mk H
      clear H
      have p6 : 0 ≤ (0 : Int) := (by omega)
      have q6 : 0 < a0.size := (by have : (0 : Int) < (a0.size : Int) := of_decide_eq_true (by first | (with_reducible assumption) | assumption); omega)
      have hx6 : ∀ h : 0 < a0.size, ((a0[0]'h).toNat : Int) = bt a0 0 := bt_at a0 0
      clear p6
      have qi6 : (0 < (a0.size : Int)) = True := eq_true (of_decide_eq_true (by first | (with_reducible assumption) | assumption))
      replace q6 := eq_true q6
      go_wp2
      go_meet
      case rel => exact ⟨_, (true), (by first | rfl | (simp; done) | (simp [*]; done)), H', ⟨by first | omega | exact Nat.le_refl _⟩, by repeat (first | exact Drawn0.refl _ | apply Drawn0.step)⟩
     ·rw [if_neg c7] at H
      have c7b0 : decide ((bt a0 0) < 97) = false := decide_eq_false c7
      clear c7
      have H' := Aside0.mk H
      clear H
      have p6 : 0 ≤ (0 : Int) := (by omega)
      have q6 : 0 < a0.size := (by have : (0 : Int) < (a0.size : Int) := of_decide_eq_true (by first | (with_reducible assumption) | assumption); omega)
      have hx6 : ∀ h : 0 < a0.size, ((a0[0]'h).toNat : Int) = bt a0 0 := bt_at a0 0
      clear p6
      have qi6 : (0 < (a0.size : Int)) = True := eq_true (of_decide_eq_true (by first | (with_reducible assumption) | assumption))
      replace q6 := eq_true q6
      have p8 : 0 ≤ (0 : Int) := (by omega)
      have q8 : 0 < a0.size := (by have : (0 : Int) < (a0.size : Int) := of_decide_eq_true (by first | (with_reducible assumption) | assumption); omega)
      have hx8 : ∀ h : 0 < a0.size, ((a0[0]'h).toNat : Int) = bt a0 0 := bt_at a0 0
      clear p8
      have qi8 : (0 < (a0.size : Int)) = True := eq_true (of_decide_eq_true (by first | (with_reducible assumption) | assumption))
      replace q8 := eq_true q8
      go_wp2
      go_meet
      case rel => exact ⟨_, (decide ((bt a0 0) > 122)), (by first | rfl | (simp; done) | (simp [*]; done)), H', ⟨by first | omega | exact Nat.le_refl _⟩, by repeat (first | exact Drawn0.refl _ | apply Drawn0.step)⟩
    ·rw [if_neg c5] at H
     exact absurd H (by simp)
 case rest =>
  clear HC2
  try clear p2
  try clear c3
  try clear c3b0
  try clear c3b1
  try clear c4
  try clear c4b0
  try clear c4b1
  try clear c5
  try clear c5b0
  try clear c5b1
  try clear p6
  try clear q6
  try clear hx6
  try clear qi6
  try clear c7
  try clear c7b0
  try clear p8
  try clear q8
  try clear hx8
  try clear qi8
  try clear p6
  try clear p8
  try clear q6
  try clear q8
  obtain ⟨kq, x22_1, rfl, HA, HJ1, ⟨mc1, rfl⟩⟩ := hcut
  cases kq with
  | zero => exact absurd HA.out (by simp [pendulumref03_Named.j0])
  | succ kj1 =>
   have H := HA.out
   clear HA
   simp only [pendulumref03_Named.j0] at H
   by_cases c9 : x22_1 = true
   ·subst c9
    have H1 : (some false) = some r := by rw [if_pos rfl] at H; exact H
    clear H
    have H := H1
    clear H1
    obtain rfl := Option.some.inj H
    go_wp2
    go_ret
    exact ⟨by first | rfl | (simp; done) | (simp [*]; done), by repeat (first | exact Drawn0.refl _ | apply Drawn0.step)⟩
   ·replace c9 := Bool.eq_false_iff.mpr c9
    subst c9
    have H1 : (pendulumref03_Named.l0 kj1 a0 1) = some r := by rw [if_neg (show ¬ (false = true) by decide)] at H; exact H
    clear H
    have H := H1
    clear H1
    have H' := Aside0.mk H
    clear H
    go_wp2
    go_loopg [3] kj1 (fun kq v3 w' => ∃ (x3_2 : Int), v3 = .int .i64 x3_2 ∧ Aside0 (pendulumref03_Named.l0 kq a0 x3_2 = some r) ∧ Aside0 (kq ≤ kj1) ∧ Drawn0 w w')
    case atStart => exact ⟨(1), (by first | rfl | (simp; done) | (simp [*]; done)), H', ⟨Nat.le_refl _⟩, by repeat (first | exact Drawn0.refl _ | apply Drawn0.step)⟩
    case round =>
     clear H'
     try clear c1
     try clear p2
     try clear c3
     try clear c3b0
     try clear c3b1
     try clear c4
     try clear c4b0
     try clear c4b1
     try clear c5
     try clear c5b0
     try clear c5b1
     try clear p6
     try clear q6
     try clear hx6
     try clear qi6
     try clear c7
     try clear c7b0
     try clear p8
     try clear q8
     try clear hx8
     try clear qi8
     try clear c9
     try clear p2
     try clear p6
     try clear p8
     try clear q6
     try clear q8
     obtain ⟨x3_2, rfl, HA, HK2, ⟨m2, rfl⟩⟩ := hrel
     cases gk with
     | zero => exact absurd HA.out (by simp [pendulumref03_Named.l0])
     | succ k2 =>
      have H := HA.out
      clear HA
      simp only [pendulumref03_Named.l0] at H
      by_cases c10 : x3_2 < (a0.size : Int)
      ·rw [if_pos c10] at H
       have c10b0 : decide (x3_2 < (a0.size : Int)) = true := decide_eq_true c10
       clear c10
       by_cases c11 : 0 ≤ x3_2
       ·rw [if_pos c11] at H
        have c11b0 : decide (0 ≤ x3_2) = true := decide_eq_true c11
        clear c11
        by_cases c13 : (bt a0 x3_2) ≥ 97
        ·rw [if_pos c13] at H
         have c13b0 : decide (97 ≤ (bt a0 x3_2)) = true := decide_eq_true c13
         clear c13
         by_cases c14 : (bt a0 x3_2) ≤ 122
         ·rw [if_pos c14] at H
          have c14b0 : decide ((bt a0 x3_2) ≤ 122) = true := decide_eq_true c14
          clear c14
          have H' := Aside0.mk H
          clear H
          have p12 : 0 ≤ (x3_2 : Int) := of_decide_eq_true (by first | (with_reducible assumption) | assumption)
          have q12 : x3_2 < (a0.size : Int) := of_decide_eq_true (by first | (with_reducible assumption) | assumption)
          have hx12 := bt_at a0 x3_2
          replace p12 := eq_true p12
          replace q12 := eq_true q12
          go_wp2
          go_roundg k2
          case measure => have := HJ1.out; have := HK2.out; omega
          case rel => exact ⟨(wrap64 (x3_2 + 1)), (by first | rfl | (simp; done) | (simp [*]; done)), H', ⟨by have := HJ1.out; have := HK2.out; omega⟩, by repeat (first | exact Drawn0.refl _ | apply Drawn0.step)⟩
         ·rw [if_neg c14] at H
          have c14b0 : decide ((bt a0 x3_2) ≤ 122) = false := decide_eq_false c14
          clear c14
          by_cases c15 : (bt a0 x3_2) ≥ 48
          ·rw [if_pos c15] at H
           have c15b0 : decide (48 ≤ (bt a0 x3_2)) = true := decide_eq_true c15
           clear c15
           by_cases c16 : (bt a0 x3_2) ≤ 57
           ·rw [if_pos c16] at H
            have c16b0 : decide ((bt a0 x3_2) ≤ 57) = true := decide_eq_true c16
            clear c16
            have H' := Aside0.mk H
            clear H
            have p12 : 0 ≤ (x3_2 : Int) := of_decide_eq_true (by first | (with_reducible assumption) | assumption)
            have q12 : x3_2 < (a0.size : Int) := of_decide_eq_true (by first | (with_reducible assumption) | assumption)
            have hx12 := bt_at a0 x3_2
            replace p12 := eq_true p12
            replace q12 := eq_true q12
            go_wp2
            go_roundg k2
            case measure => have := HJ1.out; have := HK2.out; omega
            case rel => exact ⟨(wrap64 (x3_2 + 1)), (by first | rfl | (simp; done) | (simp [*]; done)), H', ⟨by have := HJ1.out; have := HK2.out; omega⟩, by repeat (first | exact Drawn0.refl _ | apply Drawn0.step)⟩
           ·rw [if_neg c16] at H
            have c16b0 : decide ((bt a0 x3_2) ≤ 57) = false := decide_eq_false c16
            clear c16
            by_cases c17 : ((bt a0 x3_2) = 95)
            ·rw [if_pos c17] at H
             have c17b0 : ((bt a0 x3_2) == 95) = true := beq_iff_eq.mpr c17
             have c17b1 : ((bt a0 x3_2) != 95) = false := bne_eq_false_iff_eq.mpr c17
             clear c17
             have H' := Aside0.mk H
             clear H
             have p12 : 0 ≤ (x3_2 : Int) := of_decide_eq_true (by first | (with_reducible assumption) | assumption)
             have q12 : x3_2 < (a0.size : Int) := of_decide_eq_true (by first | (with_reducible assumption) | assumption)
             have hx12 := bt_at a0 x3_2
             replace p12 := eq_true p12
             replace q12 := eq_true q12
             go_wp2
             go_roundg k2
             case measure => have := HJ1.out; have := HK2.out; omega
             case rel => exact ⟨(wrap64 (x3_2 + 1)), (by first | rfl | (simp; done) | (simp [*]; done)), H', ⟨by have := HJ1.out; have := HK2.out; omega⟩, by repeat (first | exact Drawn0.refl _ | apply Drawn0.step)⟩
            ·rw [if_neg c17] at H
             have c17b0 : ((bt a0 x3_2) == 95) = false := beq_eq_false_iff_ne.mpr c17
             have c17b1 : ((bt a0 x3_2) != 95) = true := bne_iff_ne.mpr c17
             obtain rfl := Option.some.inj H
             have p12 : 0 ≤ (x3_2 : Int) := of_decide_eq_true (by first | (with_reducible assumption) | assumption)
             have q12 : x3_2 < (a0.size : Int) := of_decide_eq_true (by first | (with_reducible assumption) | assumption)
             have hx12 := bt_at a0 x3_2
             replace p12 := eq_true p12
             replace q12 := eq_true q12
             go_wp2
             go_ret
             exact ⟨by first | rfl | (simp; done) | (simp [*]; done), by repeat (first | exact Drawn0.refl _ | apply Drawn0.step)⟩
          ·rw [if_neg c15] at H
           have c15b0 : decide (48 ≤ (bt a0 x3_2)) = false := decide_eq_false c15
           clear c15
           by_cases c18 : ((bt a0 x3_2) = 95)
           ·rw [if_pos c18] at H
            have c18b0 : ((bt a0 x3_2) == 95) = true := beq_iff_eq.mpr c18
            have c18b1 : ((bt a0 x3_2) != 95) = false := bne_eq_false_iff_eq.mpr c18
            clear c18
            have H' := Aside0.mk H
            clear H
            have p12 : 0 ≤ (x3_2 : Int) := of_decide_eq_true (by first | (with_reducible assumption) | assumption)
            have q12 : x3_2 < (a0.size : Int) := of_decide_eq_true (by first | (with_reducible assumption) | assumption)
            have hx12 := bt_at a0 x3_2
            replace p12 := eq_true p12
            replace q12 := eq_true q12
            go_wp2
            go_roundg k2
            case measure => have := HJ1.out; have := HK2.out; omega
            case rel => exact ⟨(wrap64 (x3_2 + 1)), (by first | rfl | (simp; done) | (simp [*]; done)), H', ⟨by have := HJ1.out; have := HK2.out; omega⟩, by repeat (first | exact Drawn0.refl _ | apply Drawn0.step)⟩
           ·rw [if_neg c18] at H
            have c18b0 : ((bt a0 x3_2) == 95) = false := beq_eq_false_iff_ne.mpr c18
            have c18b1 : ((bt a0 x3_2) != 95) = true := bne_iff_ne.mpr c18
            obtain rfl := Option.some.inj H
            have p12 : 0 ≤ (x3_2 : Int) := of_decide_eq_true (by first | (with_reducible assumption) | assumption)
            have q12 : x3_2 < (a0.size : Int) := of_decide_eq_true (by first | (with_reducible assumption) | assumption)
            have hx12 := bt_at a0 x3_2
            replace p12 := eq_true p12
            replace q12 := eq_true q12
            go_wp2
            go_ret
            exact ⟨by first | rfl | (simp; done) | (simp [*]; done), by repeat (first | exact Drawn0.refl _ | apply Drawn0.step)⟩
        ·rw [if_neg c13] at H
         have c13b0 : decide (97 ≤ (bt a0 x3_2)) = false := decide_eq_false c13
         clear c13
         by_cases c19 : (bt a0 x3_2) ≥ 48
         ·rw [if_pos c19] at H
          have c19b0 : decide (48 ≤ (bt a0 x3_2)) = true := decide_eq_true c19
          clear c19
          by_cases c20 : (bt a0 x3_2) ≤ 57
          ·rw [if_pos c20] at H
           have c20b0 : decide ((bt a0 x3_2) ≤ 57) = true := decide_eq_true c20
           clear c20
           have H' := Aside0.mk H
           clear H
           have p12 : 0 ≤ (x3_2 : Int) := of_decide_eq_true (by first | (with_reducible assumption) | assumption)
           have q12 : x3_2 < (a0.size : Int) := of_decide_eq_true (by first | (with_reducible assumption) | assumption)
           have hx12 := bt_at a0 x3_2
           replace p12 := eq_true p12
           replace q12 := eq_true q12
           go_wp2
           go_roundg k2
           case measure => have := HJ1.out; have := HK2.out; omega
           case rel => exact ⟨(wrap64 (x3_2 + 1)), (by first | rfl | (simp; done) | (simp [*]; done)), H', ⟨by have := HJ1.out; have := HK2.out; omega⟩, by repeat (first | exact Drawn0.refl _ | apply Drawn0.step)⟩
          ·rw [if_neg c20] at H
           have c20b0 : decide ((bt a0 x3_2) ≤ 57) = false := decide_eq_false c20
           clear c20
           by_cases c21 : ((bt a0 x3_2) = 95)
           ·rw [if_pos c21] at H
            have c21b0 : ((bt a0 x3_2) == 95) = true := beq_iff_eq.mpr c21
            have c21b1 : ((bt a0 x3_2) != 95) = false := bne_eq_false_iff_eq.mpr c21
            clear c21
            have H' := Aside0.mk H
            clear H
            have p12 : 0 ≤ (x3_2 : Int) := of_decide_eq_true (by first | (with_reducible assumption) | assumption)
            have q12 : x3_2 < (a0.size : Int) := of_decide_eq_true (by first | (with_reducible assumption) | assumption)
            have hx12 := bt_at a0 x3_2
            replace p12 := eq_true p12
            replace q12 := eq_true q12
            go_wp2
            go_roundg k2
            case measure => have := HJ1.out; have := HK2.out; omega
            case rel => exact ⟨(wrap64 (x3_2 + 1)), (by first | rfl | (simp; done) | (simp [*]; done)), H', ⟨by have := HJ1.out; have := HK2.out; omega⟩, by repeat (first | exact Drawn0.refl _ | apply Drawn0.step)⟩
           ·rw [if_neg c21] at H
            have c21b0 : ((bt a0 x3_2) == 95) = false := beq_eq_false_iff_ne.mpr c21
            have c21b1 : ((bt a0 x3_2) != 95) = true := bne_iff_ne.mpr c21
            obtain rfl := Option.some.inj H
            have p12 : 0 ≤ (x3_2 : Int) := of_decide_eq_true (by first | (with_reducible assumption) | assumption)
            have q12 : x3_2 < (a0.size : Int) := of_decide_eq_true (by first | (with_reducible assumption) | assumption)
            have hx12 := bt_at a0 x3_2
            replace p12 := eq_true p12
            replace q12 := eq_true q12
            go_wp2
            go_ret
            exact ⟨by first | rfl | (simp; done) | (simp [*]; done), by repeat (first | exact Drawn0.refl _ | apply Drawn0.step)⟩
         ·rw [if_neg c19] at H
          have c19b0 : decide (48 ≤ (bt a0 x3_2)) = false := decide_eq_false c19
          clear c19
          by_cases c22 : ((bt a0 x3_2) = 95)
          ·rw [if_pos c22] at H
           have c22b0 : ((bt a0 x3_2) == 95) = true := beq_iff_eq.mpr c22
           have c22b1 : ((bt a0 x3_2) != 95) = false := bne_eq_false_iff_eq.mpr c22
           clear c22
           have H' := Aside0.mk H
           clear H
           have p12 : 0 ≤ (x3_2 : Int) := of_decide_eq_true (by first | (with_reducible assumption) | assumption)
           have q12 : x3_2 < (a0.size : Int) := of_decide_eq_true (by first | (with_reducible assumption) | assumption)
           have hx12 := bt_at a0 x3_2
           replace p12 := eq_true p12
           replace q12 := eq_true q12
           go_wp2
           go_roundg k2
           case measure => have := HJ1.out; have := HK2.out; omega
           case rel => exact ⟨(wrap64 (x3_2 + 1)), (by first | rfl | (simp; done) | (simp [*]; done)), H', ⟨by have := HJ1.out; have := HK2.out; omega⟩, by repeat (first | exact Drawn0.refl _ | apply Drawn0.step)⟩
          ·rw [if_neg c22] at H
           have c22b0 : ((bt a0 x3_2) == 95) = false := beq_eq_false_iff_ne.mpr c22
           have c22b1 : ((bt a0 x3_2) != 95) = true := bne_iff_ne.mpr c22
           obtain rfl := Option.some.inj H
           have p12 : 0 ≤ (x3_2 : Int) := of_decide_eq_true (by first | (with_reducible assumption) | assumption)
           have q12 : x3_2 < (a0.size : Int) := of_decide_eq_true (by first | (with_reducible assumption) | assumption)
           have hx12 := bt_at a0 x3_2
           replace p12 := eq_true p12
           replace q12 := eq_true q12
           go_wp2
           go_ret
           exact ⟨by first | rfl | (simp; done) | (simp [*]; done), by repeat (first | exact Drawn0.refl _ | apply Drawn0.step)⟩
       ·rw [if_neg c11] at H
        exact absurd H (by simp)
      ·rw [if_neg c10] at H
       have c10b0 : decide (x3_2 < (a0.size : Int)) = false := decide_eq_false c10
       clear c10
       obtain rfl := Option.some.inj H
       go_wp2
       go_ret
       exact ⟨by first | rfl | (simp; done) | (simp [*]; done), by repeat (first | exact Drawn0.refl _ | apply Drawn0.step)⟩

end Go.Proofs.YtddbkcfdfgehkaaDoor.Q

-- The reference's Named tells what index.Named tells (no program in sight).
namespace Go.Proofs.YtddbkcfdfgehkaaDoor.Q
open Go.RowKit Go.Proofs.YtddbkcfdfgehkaaDoorW.PrintWords Go.Proofs.YtddbkcfdfgehkaaDoorW.PrintLast Go.Proofs.YtddbkcfdfgehkaaDoorW.PrintMore
attribute [local go_sem] max2_int min2_int max_two min_two max_three min_three max_four min_four   -- for this text's walks alone
set_option linter.unusedVariables false
set_option linter.unusedSimpArgs false

theorem wrap_ok0 {x : Int} (h0 : -1000000000000000000 ≤ x) (h1 : x ≤ 1000000000000000000) : wrap64 x = x := by unfold wrap64; omega
def okc (c : Int) : Bool := (decide (97 ≤ c) && decide (c ≤ 122)) || (decide (48 ≤ c) && decide (c ≤ 57)) || (c == 95)
theorem okc_all : ∀ n : Fin 256, nOthers.contains (UInt8.ofNat n.val) = okc (n.val : Int) := by decide +kernel
theorem let_all : ∀ n : Fin 256, nLetters.contains (UInt8.ofNat n.val) = (decide (97 ≤ (n.val : Int)) && decide ((n.val : Int) ≤ 122)) := by decide +kernel
theorem okc_u (b : UInt8) : nOthers.contains b = okc (b.toNat : Int) := by
 have h := okc_all ⟨b.toNat, UInt8.toNat_lt b⟩
 simpa using h
theorem let_u (b : UInt8) : nLetters.contains b = (decide (97 ≤ (b.toNat : Int)) && decide ((b.toNat : Int) ≤ 122)) := by
 have h := let_all ⟨b.toNat, UInt8.toNat_lt b⟩
 simpa using h
theorem bt_cell (a : ByteArray) (i : Nat) (h : i < a.size) : ∃ b : UInt8, a.data.toList.drop i = b :: a.data.toList.drop (i + 1) ∧ bt a (i : Int) = (b.toNat : Int) := by
 have hl : i < a.data.toList.length := by simpa using h
 refine ⟨a.data.toList[i], (List.drop_eq_getElem_cons hl), ?_⟩
 unfold bt
 rw [dif_pos (by simpa using h)]
 simp [ByteArray.getElem_eq_getElem_data]
theorem named_step (k : Nat) (a : ByteArray) (i : Nat) (h : i < a.size) (hs : a.size ≤ 12) : pendulumref03_Named.l0 (k + 1) a (i : Int) = if okc (bt a (i : Int)) = true then pendulumref03_Named.l0 k a ((i + 1 : Nat) : Int) else some false := by
 have hw : wrap64 ((i : Int) + 1) = ((i + 1 : Nat) : Int) := by rw [wrap_ok0 (by omega) (by omega)]; omega
 rw [pendulumref03_Named.l0, if_pos (by omega), if_pos (by omega), hw]
 obtain ⟨c, hc⟩ : ∃ c, bt a (i : Int) = c := ⟨_, rfl⟩
 rw [hc]
 unfold okc
 by_cases h1 : c ≥ 97
 ·by_cases h2 : c ≤ 122
  ·simp [h1, h2]
  ·have h3 : ¬ c ≤ 57 := by omega
   have h4 : ¬ c = 95 := by omega
   simp [h1, h2, h3, h4]
 ·by_cases h2 : c ≥ 48
  ·by_cases h3 : c ≤ 57
   ·simp [h1, h2, h3]
   ·by_cases h4 : c = 95
    ·subst h4; simp
    ·simp [h1, h2, h3, h4]
  ·have h4 : ¬ c = 95 := by omega
   simp [h1, h2, h4]
theorem named_loop (a : ByteArray) (hs : a.size ≤ 12) : ∀ (n i k : Nat), i + n = a.size → n < k → pendulumref03_Named.l0 k a (i : Int) = some ((a.data.toList.drop i).all (nOthers.contains ·))
 | 0, i, k, h, hk => by
  obtain ⟨k, rfl⟩ : ∃ j, k = j + 1 := ⟨k - 1, by omega⟩
  rw [pendulumref03_Named.l0, if_neg (by omega), List.drop_of_length_le (by simp; omega)]
  rfl
 | n + 1, i, k, h, hk => by
  obtain ⟨k, rfl⟩ : ∃ j, k = j + 1 := ⟨k - 1, by omega⟩
  obtain ⟨b, hb, hbt⟩ := bt_cell a i (by omega)
  rw [named_step k a i (by omega) hs, hbt, hb, List.all_cons, okc_u, named_loop a hs n (i + 1) k (by omega) (by omega)]
  cases okc (b.toNat : Int) <;> simp
theorem ref_named (a : ByteArray) : ∀ k, 20 ≤ k → pendulumref03_Named.f k a = some (named a) := by
 intro k hk
 obtain ⟨k, rfl⟩ : ∃ j, k = j + 1 := ⟨k - 1, by omega⟩
 unfold pendulumref03_Named.f named
 by_cases h1 : (a.size : Int) < 1
 ·rw [if_pos h1, decide_eq_false (show ¬ 1 ≤ a.size by omega)]
  rfl
 ·rw [if_neg h1, decide_eq_true (show 1 ≤ a.size by omega)]
  by_cases h2 : (a.size : Int) > 12
  ·rw [if_pos h2, decide_eq_false (show ¬ a.size ≤ 12 by omega)]
   rfl
  ·rw [if_neg h2, decide_eq_true (show a.size ≤ 12 by omega), if_pos (by omega)]
   obtain ⟨b, hb, hbt⟩ := bt_cell a 0 (by omega)
   rw [List.drop_zero] at hb
   have hbt0 : bt a 0 = (b.toNat : Int) := hbt
   have hloop := named_loop a (by omega) (a.size - 1) 1 k (by omega) (by omega)
   have e1 : ((1 : Nat) : Int) = 1 := rfl
   rw [e1] at hloop
   rw [hbt0, hb, List.take_succ_cons, List.take_zero, List.all_cons, List.all_nil, let_u, List.all_cons, okc_u]
   simp only [Nat.zero_add] at hb ⊢
   by_cases h3 : (b.toNat : Int) < 97
   ·rw [if_pos h3, decide_eq_false (show ¬ 97 ≤ (b.toNat : Int) by omega)]
    rfl
   ·rw [if_neg h3, decide_eq_true (show 97 ≤ (b.toNat : Int) by omega)]
    by_cases h4 : (b.toNat : Int) > 122
    ·rw [decide_eq_true h4, decide_eq_false (show ¬ (b.toNat : Int) ≤ 122 by omega)]
     rfl
    ·rw [decide_eq_false h4, decide_eq_true (show (b.toNat : Int) ≤ 122 by omega)]
     rw [pendulumref03_Named.j0, if_neg Bool.false_ne_true, hloop]
     have : okc (b.toNat : Int) = true := by unfold okc; simp; omega
     rw [this]
     simp
end Go.Proofs.YtddbkcfdfgehkaaDoor.Q

-- Written for this claim by the session's own driver (wip/qprint.py) over the kit's printer, out of the translation. Not trusted: Lean checks it.
namespace Go.Proofs.YtddbkcfdfgehkaaDoor.Q
open Go.RowKit Go.Proofs.YtddbkcfdfgehkaaDoorW.PrintWords Go.Proofs.YtddbkcfdfgehkaaDoorW.PrintLast Go.Proofs.YtddbkcfdfgehkaaDoorW.PrintMore
attribute [local go_sem] max2_int min2_int max_two min_two max_three min_three max_four min_four   -- for this text's walks alone
set_option linter.unusedVariables false
set_option linter.unusedSimpArgs false

/-! ### pendulumref06_spot: function 25 -/
def pendulumref06_spot.f (a0 : Int) (a1_0 : Int) (a1_1 : ByteArray) (a1_2 : Int) (a1_3 : Int) (a1_4 : Int) : Option (Int × (List (S40)) × Int × Int × Int) := some (0, ([] : List (S40)), a0, a1_3, a1_4)
def pendulumref06_spot.T1 : Bool × List (List Nat × List Nat) := (true, [([], []), ([], []), ([], []), ([2], [2]), ([], []), ([4], [4]), ([1, 3, 5], [1, 3, 5]), ([0, 0], [0]), ([6, 7, 0, 1, 2, 3, 4, 5, 6, 7], [6])])
def pendulumref06_spot.B1 : List Nat := [0, 0, 0, 4, 0, 16, 62, 1, 255]
theorem pendulumref06_spot.tab1 : rtab .any (opsOf Tryd.f25 1) = pendulumref06_spot.T1 := by kernel_rfl
theorem pendulumref06_spot.bits1 : waitsOk pendulumref06_spot.T1.2 pendulumref06_spot.B1 = true := by kernel_rfl
set_option maxHeartbeats 8000000 in
set_option maxRecDepth 100000 in
theorem pendulumref06_spot.calls (a0 : Int) (a1_0 : Int) (a1_1 : ByteArray) (a1_2 : Int) (a1_3 : Int) (a1_4 : Int) (r1 : Int) (r2 : List (S40)) (r3 : Int) (r4 : Int) (r5 : Int) (w : World) (h : pendulumref06_spot.f a0 a1_0 a1_1 a1_2 a1_3 a1_4 = some (r1, r2, r3, r4, r5)) :
  Calls Tryd.prog 25 #[.int .i64 a0, .agg #[.int .i64 a1_0, .string a1_1, .int .i64 a1_2, .int .i64 a1_3, .int .i64 a1_4]] w fun e w' => ∃ v1_ : Value, e = .returned (.tuple #[.agg #[.int .i64 r1, v1_], .agg #[.int .i64 r3, .int .i64 r4, .int .i64 r5]]) ∧ Kd.R k40 40 w' w.heap.size (fun _ => True) v1_ r2 ∧ Below w.heap.size w w' := by
 have hu46 := Tryd.underlying46
 have hu26 := Tryd.underlying26
 have hu29 := Tryd.underlying29
 have HB := Aside0.mk (Below.refl w.heap.size w)
 have H : (some (0, ([] : List (S40)), a0, a1_3, a1_4)) = some (r1, r2, r3, r4, r5) := h
 clear h
 simp only [Option.some.injEq, Prod.mk.injEq] at H
 obtain ⟨rfl, rfl, rfl, rfl, rfl⟩ := H
 go_enter Tryd.func25, Tryd.ntmps25
 try go_wp2_with (first | ((with_reducible refine gate_dst (N := 3) rfl ?_); refine box_event ?hg (N := 3) ?hd (cs := #[.int .i64 a1_0, .string a1_1, .int .i64 a1_2, .int .i64 a1_3, .int .i64 a1_4]) (t := 46) ?hr ?_; (case hd => rfl); (case hg => rfl); (case hr => first | (go_simp; done) | (go_simp; rfl)); intro gb160 hg w3 hbox hb; have n0_ := Aside0.mk (below_step (by repeat (first | (with_reducible first | exact HB.out | apply below_alloc | apply pw_below_drewN | apply below_drew1) | exact HB.out)) hb); have n1_ := Aside0.mk (hbox); have n2_ := Aside0.mk ((by rw [hg]; exact (below_size (by repeat (first | (with_reducible first | exact HB.out | apply below_alloc | apply pw_below_drewN | apply below_drew1) | exact HB.out))) : w.heap.size ≤ gb160)); have n3_ := Aside0.mk ((by rw [hg]; exact (below_size (by repeat (first | (with_reducible first | exact HB.out | apply below_alloc | apply pw_below_drewN | apply below_drew1) | exact HB.out))) : w.heap.size ≤ gb160)); clear HB; have HB := n0_; have BK160 := n1_; have GW160 := n2_; have GE160 := n3_; clear n0_ n1_ n2_ n3_; clear hb hbox hg) | ((with_reducible refine gate_dst (N := 4) rfl ?_); refine box_event ?hg (N := 4) ?hd (cs := #[.int .i64 0, .slice none 0 0]) (t := 26) ?hr ?_; (case hd => rfl); (case hg => rfl); (case hr => first | (go_simp; done) | (go_simp; rfl)); intro gb161 hg w4 hbox hb; have n0_ := Aside0.mk (blk_below (g := gb160) (o := .cells #[.int .i64 a1_0, .string a1_1, .int .i64 a1_2, .int .i64 a1_3, .int .i64 a1_4] 46 (0, 0)) (by (with_reducible repeat (first | refine blk_drewN ?_ _ | refine blk_drew ?_ | refine blk_alloc ?_ _)); exact BK160.out) hb); have n1_ := Aside0.mk (below_step (by repeat (first | (with_reducible first | exact HB.out | apply below_alloc | apply pw_below_drewN | apply below_drew1 | refine below_set ?_ GE160.out) | exact HB.out)) hb); have n2_ := Aside0.mk (hbox); have n3_ := Aside0.mk ((by rw [hg]; exact (below_size (by repeat (first | (with_reducible first | exact HB.out | apply below_alloc | apply pw_below_drewN | apply below_drew1 | refine below_set ?_ GE160.out) | exact HB.out))) : w.heap.size ≤ gb161)); have n4_ := Aside0.mk ((by rw [hg]; exact (below_size (by repeat (first | (with_reducible first | exact HB.out | apply below_alloc | apply pw_below_drewN | apply below_drew1 | refine below_set ?_ GE160.out) | exact HB.out))) : w.heap.size ≤ gb161)); have n5_ := Aside0.mk ((by rw [hg]; exact Nat.ne_of_lt (blk_lt (g := gb160) (o := .cells #[.int .i64 a1_0, .string a1_1, .int .i64 a1_2, .int .i64 a1_3, .int .i64 a1_4] 46 (0, 0)) (by (with_reducible repeat (first | refine blk_drewN ?_ _ | refine blk_drew ?_ | refine blk_alloc ?_ _)); exact BK160.out)) : gb160 ≠ gb161)); have n6_ := Aside0.mk ((by rw [hg]; exact Nat.ne_of_gt (blk_lt (g := gb160) (o := .cells #[.int .i64 a1_0, .string a1_1, .int .i64 a1_2, .int .i64 a1_3, .int .i64 a1_4] 46 (0, 0)) (by (with_reducible repeat (first | refine blk_drewN ?_ _ | refine blk_drew ?_ | refine blk_alloc ?_ _)); exact BK160.out)) : gb161 ≠ gb160)); clear BK160; clear HB; have BK160 := n0_; have HB := n1_; have BK161 := n2_; have GW161 := n3_; have GE161 := n4_; have NB160_161 := n5_; have NB161_160 := n6_; clear n0_ n1_ n2_ n3_ n4_ n5_ n6_; clear hb hbox hg) | ((with_reducible refine gate_dst (N := 5) rfl ?_); refine box_event ?hg (N := 5) ?hd (cs := #[.int .i64 0, .int .i64 0, .int .i64 0]) (t := 29) ?hr ?_; (case hd => rfl); (case hg => rfl); (case hr => first | (go_simp; done) | (go_simp; rfl)); intro gb162 hg w5 hbox hb; have n0_ := Aside0.mk (blk_below (g := gb160) (o := .cells #[.int .i64 a1_0, .string a1_1, .int .i64 a1_2, .int .i64 a1_3, .int .i64 a1_4] 46 (0, 0)) (by (with_reducible repeat (first | refine blk_drewN ?_ _ | refine blk_drew ?_ | refine blk_alloc ?_ _)); exact BK160.out) hb); have n1_ := Aside0.mk (blk_below (g := gb161) (o := .cells #[.int .i64 0, .slice none 0 0] 26 (0, 0)) (by (with_reducible repeat (first | refine blk_drewN ?_ _ | refine blk_drew ?_ | refine blk_alloc ?_ _)); exact BK161.out) hb); have n2_ := Aside0.mk (below_step (by repeat (first | (with_reducible first | exact HB.out | apply below_alloc | apply pw_below_drewN | apply below_drew1 | refine below_set ?_ GE160.out | refine below_set ?_ GE161.out) | exact HB.out)) hb); have n3_ := Aside0.mk (hbox); have n4_ := Aside0.mk ((by rw [hg]; exact (below_size (by repeat (first | (with_reducible first | exact HB.out | apply below_alloc | apply pw_below_drewN | apply below_drew1 | refine below_set ?_ GE160.out | refine below_set ?_ GE161.out) | exact HB.out))) : w.heap.size ≤ gb162)); have n5_ := Aside0.mk ((by rw [hg]; exact (below_size (by repeat (first | (with_reducible first | exact HB.out | apply below_alloc | apply pw_below_drewN | apply below_drew1 | refine below_set ?_ GE160.out | refine below_set ?_ GE161.out) | exact HB.out))) : w.heap.size ≤ gb162)); have n6_ := Aside0.mk ((by rw [hg]; exact Nat.ne_of_lt (blk_lt (g := gb160) (o := .cells #[.int .i64 a1_0, .string a1_1, .int .i64 a1_2, .int .i64 a1_3, .int .i64 a1_4] 46 (0, 0)) (by (with_reducible repeat (first | refine blk_drewN ?_ _ | refine blk_drew ?_ | refine blk_alloc ?_ _)); exact BK160.out)) : gb160 ≠ gb162)); have n7_ := Aside0.mk ((by rw [hg]; exact Nat.ne_of_gt (blk_lt (g := gb160) (o := .cells #[.int .i64 a1_0, .string a1_1, .int .i64 a1_2, .int .i64 a1_3, .int .i64 a1_4] 46 (0, 0)) (by (with_reducible repeat (first | refine blk_drewN ?_ _ | refine blk_drew ?_ | refine blk_alloc ?_ _)); exact BK160.out)) : gb162 ≠ gb160)); have n8_ := Aside0.mk ((by rw [hg]; exact Nat.ne_of_lt (blk_lt (g := gb161) (o := .cells #[.int .i64 0, .slice none 0 0] 26 (0, 0)) (by (with_reducible repeat (first | refine blk_drewN ?_ _ | refine blk_drew ?_ | refine blk_alloc ?_ _)); exact BK161.out)) : gb161 ≠ gb162)); have n9_ := Aside0.mk ((by rw [hg]; exact Nat.ne_of_gt (blk_lt (g := gb161) (o := .cells #[.int .i64 0, .slice none 0 0] 26 (0, 0)) (by (with_reducible repeat (first | refine blk_drewN ?_ _ | refine blk_drew ?_ | refine blk_alloc ?_ _)); exact BK161.out)) : gb162 ≠ gb161)); clear BK160; clear BK161; clear HB; have BK160 := n0_; have BK161 := n1_; have HB := n2_; have BK162 := n3_; have GW162 := n4_; have GE162 := n5_; have NB160_162 := n6_; have NB162_160 := n7_; have NB161_162 := n8_; have NB162_161 := n9_; clear n0_ n1_ n2_ n3_ n4_ n5_ n6_ n7_ n8_ n9_; clear hb hbox hg))
 have n0_ := Aside0.mk (blk_drew BK160.out)
 have n1_ := Aside0.mk (blk_drew BK161.out)
 have n2_ := Aside0.mk (blk_drew BK162.out)
 have n3_ := Aside0.mk (below_drew1 HB.out)
 clear BK160
 clear BK161
 clear BK162
 clear HB
 have BK160 := n0_
 have BK161 := n1_
 have BK162 := n2_
 have HB := n3_
 clear n0_ n1_ n2_ n3_
 refine start_ (n := 9) (S := fun w' => w'.cell? ⟨gb160, 0, none⟩ = some (.int .i64 a1_0) ∧ w'.cell? ⟨gb160, 1, none⟩ = some (.string a1_1) ∧ w'.cell? ⟨gb160, 2, none⟩ = some (.int .i64 a1_2) ∧ w'.cell? ⟨gb160, 3, none⟩ = some (.int .i64 a1_3) ∧ w'.cell? ⟨gb160, 4, none⟩ = some (.int .i64 a1_4)) (ds := []) #[false, false, false, false, false, false, false, false, false] (by kernel_rfl) rfl rfl ⟨(blk_cell BK160.out 0).trans rfl, (blk_cell BK160.out 1).trans rfl, (blk_cell BK160.out 2).trans rfl, (blk_cell BK160.out 3).trans rfl, (blk_cell BK160.out 4).trans rfl⟩ (fun hHeld => ?_); refine with_tabW pendulumref06_spot.tab1 pendulumref06_spot.bits1 (fun HT_ HW_ => ?_)
 generalize w5.drew = w6 at BK160 BK161 BK162 HB hHeld ⊢
 refine pure_ (i := 0) (N := some 6) (v := ?_) (a' := ?_) #[true, false, false, false, false, false, false, false, false] rfl rfl (any_of HT_.out (by kernel_rfl)) (fun _ _ _ h => h) (Or.inl ⟨by rfl, ?_⟩) ?_ ?_
 rotate_left
 ·intro w'
  go_simp
  with_reducible rfl
 rotate_left
 ·simp only [Act.put, List.setIfInBounds_toArray, List.set_cons_zero, List.set_cons_succ, i64_w, i32_w]
  rfl
 refine pure_ (i := 1) (N := some 7) (v := ?_) (a' := ?_) #[true, true, false, false, false, false, false, false, false] rfl rfl (any_of HT_.out (by kernel_rfl)) (fun _ _ _ h => h) (Or.inl ⟨by rfl, ?_⟩) ?_ ?_
 rotate_left
 ·intro w'
  go_simp
  with_reducible rfl
 rotate_left
 ·simp only [Act.put, List.setIfInBounds_toArray, List.set_cons_zero, List.set_cons_succ, i64_w, i32_w]
  rfl
 refine pure_ (i := 2) (N := some 8) (v := ?_) (a' := ?_) #[true, true, true, false, false, false, false, false, false] rfl rfl (any_of HT_.out (by kernel_rfl)) (fun _ _ _ h => h) (Or.inl ⟨by rfl, ?_⟩) ?_ ?_
 rotate_left
 ·intro w'
  go_simp
  with_reducible rfl
 rotate_left
 ·simp only [Act.put, List.setIfInBounds_toArray, List.set_cons_zero, List.set_cons_succ, i64_w, i32_w]
  rfl
 refine pure_ (i := 4) (N := some 10) (v := ?_) (a' := ?_) #[true, true, true, false, true, false, false, false, false] rfl rfl (any_of HT_.out (by kernel_rfl)) (fun _ _ _ h => h) (Or.inl ⟨by rfl, ?_⟩) ?_ ?_
 rotate_left
 ·intro w'
  go_simp
  with_reducible rfl
 rotate_left
 ·simp only [Act.put, List.setIfInBounds_toArray, List.set_cons_zero, List.set_cons_succ, i64_w, i32_w]
  rfl
 refine take_ (i := 3) (N := some 9) (v := ?_) (a' := ?_) #[true, true, true, true, true, false, false, false, false] rfl rfl (take_ofW HT_.out HW_.out (by kernel_rfl)) (fun _ _ _ h => h) (Or.inl ⟨by rfl, ?_⟩) hHeld ?_ ?_
 rotate_left
 ·rintro w' ⟨s0, s1, s2, s3, s4⟩
  go_simp
  with_reducible rfl
 rotate_left
 ·simp only [Act.put, List.setIfInBounds_toArray, List.set_cons_zero, List.set_cons_succ, i64_w, i32_w]
  rfl
 refine take_ (i := 5) (N := some 11) (v := ?_) (a' := ?_) #[true, true, true, true, true, true, false, false, false] rfl rfl (take_ofW HT_.out HW_.out (by kernel_rfl)) (fun _ _ _ h => h) (Or.inl ⟨by rfl, ?_⟩) hHeld ?_ ?_
 rotate_left
 ·rintro w' ⟨s0, s1, s2, s3, s4⟩
  go_simp
  with_reducible rfl
 rotate_left
 ·simp only [Act.put, List.setIfInBounds_toArray, List.set_cons_zero, List.set_cons_succ, i64_w, i32_w]
  rfl
 refine pure_ (i := 6) (N := some 12) (v := ?_) (a' := ?_) #[true, true, true, true, true, true, true, false, false] rfl rfl (any_of HT_.out (by kernel_rfl)) (fun _ _ _ h => h) (Or.inl ⟨by rfl, ?_⟩) ?_ ?_
 rotate_left
 ·intro w'
  go_simp
  with_reducible rfl
 rotate_left
 ·simp only [Act.put, List.setIfInBounds_toArray, List.set_cons_zero, List.set_cons_succ, i64_w, i32_w]
  rfl
 refine one_ (i := 7) (N := none) #[true, true, true, true, true, true, true, true, false] rfl rfl (one_of HT_.out (by kernel_rfl)) (by decide) (fun K hK => ?_)
 have hs7 : w6.cell? ⟨gb161, 0, none⟩ = some (.int .i64 0) := (blk_cell BK161.out 0).trans rfl
 have hfs7 := blk_frozen BK161.out 0
 have hns7_0 := NB160_161.out
 have hns7_2 := NB162_161.out
 have hms7_0 := NB161_160.out
 have hms7_2 := NB161_162.out
 have hs8 : w6.cell? ⟨gb161, 1, none⟩ = some (.slice none 0 0) := (blk_cell BK161.out 1).trans rfl
 have hfs8 := blk_frozen BK161.out 1
 have hns8_0 := NB160_161.out
 have hns8_2 := NB162_161.out
 have hms8_0 := NB161_160.out
 have hms8_2 := NB161_162.out
 refine skip_ (w1 := ?_) (by rfl) rfl ?_ ?_
 rotate_left
 ·go_simp
  rfl
 refine hK.out _ _ ⟨((cell_far (p := ⟨gb161, _, none⟩) NB160_161.out _).trans (((cell_far (p := ⟨gb161, _, none⟩) NB160_161.out _).trans (hHeld.1)))), ((cell_far (p := ⟨gb161, _, none⟩) NB160_161.out _).trans (((cell_far (p := ⟨gb161, _, none⟩) NB160_161.out _).trans (hHeld.2.1)))), ((cell_far (p := ⟨gb161, _, none⟩) NB160_161.out _).trans (((cell_far (p := ⟨gb161, _, none⟩) NB160_161.out _).trans (hHeld.2.2.1)))), ((cell_far (p := ⟨gb161, _, none⟩) NB160_161.out _).trans (((cell_far (p := ⟨gb161, _, none⟩) NB160_161.out _).trans (hHeld.2.2.2.1)))), ((cell_far (p := ⟨gb161, _, none⟩) NB160_161.out _).trans (((cell_far (p := ⟨gb161, _, none⟩) NB160_161.out _).trans (hHeld.2.2.2.2))))⟩ (fun hHeld => ?_)
 clear hK K
 refine one_ (i := 8) (N := none) #[true, true, true, true, true, true, true, true, true] rfl rfl (one_of HT_.out (by kernel_rfl)) (by decide) (fun K hK => ?_)
 have hs9 : w6.cell? ⟨gb162, 0, none⟩ = some (.int .i64 0) := (blk_cell BK162.out 0).trans rfl
 have hfs9 := blk_frozen BK162.out 0
 have hns9_0 := NB160_162.out
 have hns9_1 := NB161_162.out
 have hms9_0 := NB162_160.out
 have hms9_1 := NB162_161.out
 have hs10 : w6.cell? ⟨gb162, 1, none⟩ = some (.int .i64 0) := (blk_cell BK162.out 1).trans rfl
 have hfs10 := blk_frozen BK162.out 1
 have hns10_0 := NB160_162.out
 have hns10_1 := NB161_162.out
 have hms10_0 := NB162_160.out
 have hms10_1 := NB162_161.out
 have hs11 : w6.cell? ⟨gb162, 2, none⟩ = some (.int .i64 0) := (blk_cell BK162.out 2).trans rfl
 have hfs11 := blk_frozen BK162.out 2
 have hns11_0 := NB160_162.out
 have hns11_1 := NB161_162.out
 have hms11_0 := NB162_160.out
 have hms11_1 := NB162_161.out
 refine skip_ (w1 := ?_) (by rfl) rfl ?_ ?_
 rotate_left
 ·go_simp
  rfl
 refine hK.out _ _ ⟨((cell_far (p := ⟨gb162, _, none⟩) NB160_162.out _).trans (((cell_far (p := ⟨gb162, _, none⟩) NB160_162.out _).trans (((cell_far (p := ⟨gb162, _, none⟩) NB160_162.out _).trans (hHeld.1)))))), ((cell_far (p := ⟨gb162, _, none⟩) NB160_162.out _).trans (((cell_far (p := ⟨gb162, _, none⟩) NB160_162.out _).trans (((cell_far (p := ⟨gb162, _, none⟩) NB160_162.out _).trans (hHeld.2.1)))))), ((cell_far (p := ⟨gb162, _, none⟩) NB160_162.out _).trans (((cell_far (p := ⟨gb162, _, none⟩) NB160_162.out _).trans (((cell_far (p := ⟨gb162, _, none⟩) NB160_162.out _).trans (hHeld.2.2.1)))))), ((cell_far (p := ⟨gb162, _, none⟩) NB160_162.out _).trans (((cell_far (p := ⟨gb162, _, none⟩) NB160_162.out _).trans (((cell_far (p := ⟨gb162, _, none⟩) NB160_162.out _).trans (hHeld.2.2.2.1)))))), ((cell_far (p := ⟨gb162, _, none⟩) NB160_162.out _).trans (((cell_far (p := ⟨gb162, _, none⟩) NB160_162.out _).trans (((cell_far (p := ⟨gb162, _, none⟩) NB160_162.out _).trans (hHeld.2.2.2.2))))))⟩ (fun hHeld => ?_)
 clear hK K
 refine done_ (done_of HT_.out (by kernel_rfl)) ?_
 try go_wp2
 refine bodyPost_ret (results_cc rfl _ _ gb161 gb162 26 29 #[.int .i64 0, .slice none 0 0] #[.int .i64 a0, .int .i64 a1_3, .int .i64 a1_4] (0, 0) (0, 0) _ _ rfl (by (with_reducible repeat (first | refine blk_drewN ?_ _ | refine blk_drew ?_ | refine blk_alloc ?_ _)); refine blk_far ?_ NB161_162.out _; (with_reducible repeat (first | refine blk_drewN ?_ _ | refine blk_drew ?_ | refine blk_alloc ?_ _)); refine blk_far ?_ NB161_162.out _; (with_reducible repeat (first | refine blk_drewN ?_ _ | refine blk_drew ?_ | refine blk_alloc ?_ _)); refine blk_far ?_ NB161_162.out _; (with_reducible repeat (first | refine blk_drewN ?_ _ | refine blk_drew ?_ | refine blk_alloc ?_ _)); refine blk_put (cs := #[.int .i64 0, .slice none 0 0]) ?_ 1 _ rfl; (with_reducible repeat (first | refine blk_drewN ?_ _ | refine blk_drew ?_ | refine blk_alloc ?_ _)); refine blk_put (cs := #[.int .i64 0, .slice none 0 0]) ?_ 0 _ rfl; (with_reducible repeat (first | refine blk_drewN ?_ _ | refine blk_drew ?_ | refine blk_alloc ?_ _)); exact BK161.out) Tryd.underlying26 rfl (by kernel_rfl) rfl (by (with_reducible repeat (first | refine blk_drewN ?_ _ | refine blk_drew ?_ | refine blk_alloc ?_ _)); refine blk_put (cs := #[.int .i64 a0, .int .i64 a1_3, .int .i64 0]) ?_ 2 _ rfl; (with_reducible repeat (first | refine blk_drewN ?_ _ | refine blk_drew ?_ | refine blk_alloc ?_ _)); refine blk_put (cs := #[.int .i64 a0, .int .i64 0, .int .i64 0]) ?_ 1 _ rfl; (with_reducible repeat (first | refine blk_drewN ?_ _ | refine blk_drew ?_ | refine blk_alloc ?_ _)); refine blk_put (cs := #[.int .i64 0, .int .i64 0, .int .i64 0]) ?_ 0 _ rfl; (with_reducible repeat (first | refine blk_drewN ?_ _ | refine blk_drew ?_ | refine blk_alloc ?_ _)); refine blk_far ?_ NB162_161.out _; (with_reducible repeat (first | refine blk_drewN ?_ _ | refine blk_drew ?_ | refine blk_alloc ?_ _)); refine blk_far ?_ NB162_161.out _; (with_reducible repeat (first | refine blk_drewN ?_ _ | refine blk_drew ?_ | refine blk_alloc ?_ _)); exact BK162.out) Tryd.underlying29 rfl (by kernel_rfl)) rfl ?_
 exact ⟨_, by first | rfl | (simp [errW_none, errW_some] <;> rfl) | (simp [*, errW_none, errW_some] <;> rfl), by first | exact Kd.R_nil _ _ _ _ _ | exact Kd.N_nil _ _ _ _ _ | exact Kd.V_nil _ _ _ _ _ | exact Kd.Q_nil _ _ _ _ _ | exact Kd.S_nil _ _ _ _ _, by repeat (first | (with_reducible first | exact HB.out | apply below_alloc | apply pw_below_drewN | apply below_drew1 | refine below_set ?_ GE160.out | refine below_set ?_ GE161.out | refine below_set ?_ GE162.out) | exact HB.out)⟩

end Go.Proofs.YtddbkcfdfgehkaaDoor.Q

-- Written for this claim by the session's own driver (wip/qprint.py) over the kit's printer, out of the translation. Not trusted: Lean checks it.
namespace Go.Proofs.YtddbkcfdfgehkaaDoor.Q
open Go.RowKit Go.Proofs.YtddbkcfdfgehkaaDoorW.PrintWords Go.Proofs.YtddbkcfdfgehkaaDoorW.PrintLast Go.Proofs.YtddbkcfdfgehkaaDoorW.PrintMore
attribute [local go_sem] max2_int min2_int max_two min_two max_three min_three max_four min_four   -- for this text's walks alone
set_option linter.unusedVariables false
set_option linter.unusedSimpArgs false

theorem eqA40 (d : Nat) (w : World) (x0 y0 : ByteArray) (x1 y1 : Int) (x2 y2 : Int) (x3 y3 : Int) (x4 y4 : Int) (x5 y5 : Int) (x6 y6 : Int) (x7 y7 : Int) (x8 y8 : Int) (x9 y9 : Int) (x10 y10 : Int) :
  (Op.equalIn (d + 2) 40 (.agg #[.string x0, .int .i64 x1, .int .i64 x2, .int .i64 x3, .int .i64 x4, .int .i64 x5, .int .i64 x6, .int .i64 x7, .int .i64 x8, .int .i64 x9, .int .i64 x10]) (.agg #[.string y0, .int .i64 y1, .int .i64 y2, .int .i64 y3, .int .i64 y4, .int .i64 y5, .int .i64 y6, .int .i64 y7, .int .i64 y8, .int .i64 y9, .int .i64 y10])).run Tryd.prog w = .ok (x0.toList == y0.toList && (x1 == y1 && (x2 == y2 && (x3 == y3 && (x4 == y4 && (x5 == y5 && (x6 == y6 && (x7 == y7 && (x8 == y8 && (x9 == y9 && (x10 == y10))))))))))) w := by
 refine eqA_of Tryd.underlying40 (by kernel_rfl) ?_
 refine eqf_cons (by rfl) (by go_simp; rfl) (by go_simp; rfl) (by go_simp) ?_
 refine eqf_cons (by rfl) (by go_simp; rfl) (by go_simp; rfl) (by go_simp) ?_
 refine eqf_cons (by rfl) (by go_simp; rfl) (by go_simp; rfl) (by go_simp) ?_
 refine eqf_cons (by rfl) (by go_simp; rfl) (by go_simp; rfl) (by go_simp) ?_
 refine eqf_cons (by rfl) (by go_simp; rfl) (by go_simp; rfl) (by go_simp) ?_
 refine eqf_cons (by rfl) (by go_simp; rfl) (by go_simp; rfl) (by go_simp) ?_
 refine eqf_cons (by rfl) (by go_simp; rfl) (by go_simp; rfl) (by go_simp) ?_
 refine eqf_cons (by rfl) (by go_simp; rfl) (by go_simp; rfl) (by go_simp) ?_
 refine eqf_cons (by rfl) (by go_simp; rfl) (by go_simp; rfl) (by go_simp) ?_
 refine eqf_cons (by rfl) (by go_simp; rfl) (by go_simp; rfl) (by go_simp) ?_
 exact eqf_last (by rfl) (by go_simp; rfl) (by go_simp; rfl) (by go_simp)
end Go.Proofs.YtddbkcfdfgehkaaDoor.Q

-- Written for this claim by the session's own driver (wip/qprint.py) over the kit's printer, out of the translation. Not trusted: Lean checks it.
namespace Go.Proofs.YtddbkcfdfgehkaaDoor.Q
open Go.RowKit Go.Proofs.YtddbkcfdfgehkaaDoorW.PrintWords Go.Proofs.YtddbkcfdfgehkaaDoorW.PrintLast Go.Proofs.YtddbkcfdfgehkaaDoorW.PrintMore
attribute [local go_sem] max2_int min2_int max_two min_two max_three min_three max_four min_four   -- for this text's walks alone
set_option linter.unusedVariables false
set_option linter.unusedSimpArgs false

/-! ### lex_small: function 38 -/
def lex_small.f (a0 : Int) : Option (Bool) := if a0 ≥ 97 then (some (decide (a0 ≤ 122))) else (some false)
set_option maxHeartbeats 8000000 in
set_option maxRecDepth 100000 in
theorem lex_small.calls (a0 : Int) (r : Bool) (w : World) (h : lex_small.f a0 = some r) :
  Calls Tryd.prog 38 #[.int .u8 a0] w fun e w' => e = .returned (.bool r) ∧ Drawn0 w w' := by
 have H : (if a0 ≥ 97 then (some (decide (a0 ≤ 122))) else (some false)) = some r := h
 clear h
 by_cases c2 : a0 ≥ 97
 ·rw [if_pos c2] at H
  have c2b0 : decide (97 ≤ a0) = true := decide_eq_true c2
  clear c2
  obtain rfl := Option.some.inj H
  go_enter Tryd.func38, Tryd.ntmps38
  go_wp2
  go_ret
  exact ⟨by first | rfl | (simp; done) | (simp [*]; done), by repeat (first | exact Drawn0.refl _ | apply Drawn0.step)⟩
 ·rw [if_neg c2] at H
  have c2b0 : decide (97 ≤ a0) = false := decide_eq_false c2
  clear c2
  obtain rfl := Option.some.inj H
  go_enter Tryd.func38, Tryd.ntmps38
  go_wp2
  go_ret
  exact ⟨by first | rfl | (simp; done) | (simp [*]; done), by repeat (first | exact Drawn0.refl _ | apply Drawn0.step)⟩

/-! ### lex_digit: function 41 -/
def lex_digit.f (a0 : Int) : Option (Bool) := if a0 ≥ 48 then (some (decide (a0 ≤ 57))) else (some false)
set_option maxHeartbeats 8000000 in
set_option maxRecDepth 100000 in
theorem lex_digit.calls (a0 : Int) (r : Bool) (w : World) (h : lex_digit.f a0 = some r) :
  Calls Tryd.prog 41 #[.int .u8 a0] w fun e w' => e = .returned (.bool r) ∧ Drawn0 w w' := by
 have H : (if a0 ≥ 48 then (some (decide (a0 ≤ 57))) else (some false)) = some r := h
 clear h
 by_cases c2 : a0 ≥ 48
 ·rw [if_pos c2] at H
  have c2b0 : decide (48 ≤ a0) = true := decide_eq_true c2
  clear c2
  obtain rfl := Option.some.inj H
  go_enter Tryd.func41, Tryd.ntmps41
  go_wp2
  go_ret
  exact ⟨by first | rfl | (simp; done) | (simp [*]; done), by repeat (first | exact Drawn0.refl _ | apply Drawn0.step)⟩
 ·rw [if_neg c2] at H
  have c2b0 : decide (48 ≤ a0) = false := decide_eq_false c2
  clear c2
  obtain rfl := Option.some.inj H
  go_enter Tryd.func41, Tryd.ntmps41
  go_wp2
  go_ret
  exact ⟨by first | rfl | (simp; done) | (simp [*]; done), by repeat (first | exact Drawn0.refl _ | apply Drawn0.step)⟩

/-! ### lex_inWord: function 40 -/
def lex_inWord.f (a0 : Int) : Option (Bool) := (lex_small.f a0).bind fun t101 => (if t101 = true then (some true) else ((lex_digit.f a0).bind fun t102 => (if t102 = true then (some true) else (some (a0 == 95)))))
set_option maxHeartbeats 8000000 in
set_option maxRecDepth 100000 in
theorem lex_inWord.calls (a0 : Int) (r : Bool) (w : World) (h : lex_inWord.f a0 = some r) :
  Calls Tryd.prog 40 #[.int .u8 a0] w fun e w' => e = .returned (.bool r) ∧ Drawn0 w w' := by
 have H : ((lex_small.f a0).bind fun t101 => (if t101 = true then (some true) else ((lex_digit.f a0).bind fun t102 => (if t102 = true then (some true) else (some (a0 == 95)))))) = some r := h
 clear h
 replace H := Option.bind_eq_some_iff.mp H
 obtain ⟨t101, A20, H⟩ := H
 replace H : (if t101 = true then (some true) else ((lex_digit.f a0).bind fun t102 => (if t102 = true then (some true) else (some (a0 == 95))))) = some r := H
 have A2 := Aside0.mk A20
 clear A20
 by_cases c3 : t101 = true
 ·subst c3
  have H1 : (some true) = some r := by rw [if_pos rfl] at H; exact H
  clear H
  have H := H1
  clear H1
  obtain rfl := Option.some.inj H
  go_enter Tryd.func40, Tryd.ntmps40
  go_wp2_with (first | ((with_reducible refine gate_callee (f := 38) rfl ?_); refine goesL_ (some 4) rfl rfl Tryd.func38 (by kernel_rfl) rfl #[.int .u8 a0] rfl (by (try simp only [List.map_toArray, List.map_cons, List.map_nil]); first | done | rfl | (simp only [List.length_drop, List.length_take]; rfl)) ?_; (with_reducible refine (lex_small.calls a0 true _ A2.out).mono ?_); rintro e w' ⟨rfl, ⟨nd, rfl⟩⟩; refine ⟨_, rfl, ?_⟩))
  go_ret
  exact ⟨by first | rfl | (simp; done) | (simp [*]; done), by repeat (first | exact Drawn0.refl _ | apply Drawn0.step)⟩
 ·replace c3 := Bool.eq_false_iff.mpr c3
  subst c3
  have H1 : ((lex_digit.f a0).bind fun t102 => (if t102 = true then (some true) else (some (a0 == 95)))) = some r := by rw [if_neg (show ¬ (false = true) by decide)] at H; exact H
  clear H
  have H := H1
  clear H1
  replace H := Option.bind_eq_some_iff.mp H
  obtain ⟨t102, A40, H⟩ := H
  replace H : (if t102 = true then (some true) else (some (a0 == 95))) = some r := H
  have A4 := Aside0.mk A40
  clear A40
  by_cases c5 : t102 = true
  ·subst c5
   have H1 : (some true) = some r := by rw [if_pos rfl] at H; exact H
   clear H
   have H := H1
   clear H1
   obtain rfl := Option.some.inj H
   go_enter Tryd.func40, Tryd.ntmps40
   go_wp2_with (first | ((with_reducible refine gate_callee (f := 38) rfl ?_); refine goesL_ (some 4) rfl rfl Tryd.func38 (by kernel_rfl) rfl #[.int .u8 a0] rfl (by (try simp only [List.map_toArray, List.map_cons, List.map_nil]); first | done | rfl | (simp only [List.length_drop, List.length_take]; rfl)) ?_; (with_reducible refine (lex_small.calls a0 false _ A2.out).mono ?_); rintro e w' ⟨rfl, ⟨nd, rfl⟩⟩; refine ⟨_, rfl, ?_⟩) | (go_at_call 41; (with_reducible refine (lex_digit.calls a0 true _ A4.out).mono ?_); rintro e w' ⟨rfl, ⟨nd, rfl⟩⟩))
   go_ret
   exact ⟨by first | rfl | (simp; done) | (simp [*]; done), by repeat (first | exact Drawn0.refl _ | apply Drawn0.step)⟩
  ·replace c5 := Bool.eq_false_iff.mpr c5
   subst c5
   have H1 : (some (a0 == 95)) = some r := by rw [if_neg (show ¬ (false = true) by decide)] at H; exact H
   clear H
   have H := H1
   clear H1
   obtain rfl := Option.some.inj H
   go_enter Tryd.func40, Tryd.ntmps40
   go_wp2_with (first | ((with_reducible refine gate_callee (f := 38) rfl ?_); refine goesL_ (some 4) rfl rfl Tryd.func38 (by kernel_rfl) rfl #[.int .u8 a0] rfl (by (try simp only [List.map_toArray, List.map_cons, List.map_nil]); first | done | rfl | (simp only [List.length_drop, List.length_take]; rfl)) ?_; (with_reducible refine (lex_small.calls a0 false _ A2.out).mono ?_); rintro e w' ⟨rfl, ⟨nd, rfl⟩⟩; refine ⟨_, rfl, ?_⟩) | (go_at_call 41; (with_reducible refine (lex_digit.calls a0 false _ A4.out).mono ?_); rintro e w' ⟨rfl, ⟨nd, rfl⟩⟩))
   go_ret
   exact ⟨by first | rfl | (simp; done) | (simp [*]; done), by repeat (first | exact Drawn0.refl _ | apply Drawn0.step)⟩

/-! ### lex_inRemark: function 43 -/
def lex_inRemark.f (a0 : Int) : Option (Bool) := some (a0 != 10)
set_option maxHeartbeats 8000000 in
set_option maxRecDepth 100000 in
theorem lex_inRemark.calls (a0 : Int) (r : Bool) (w : World) (h : lex_inRemark.f a0 = some r) :
  Calls Tryd.prog 43 #[.int .u8 a0] w fun e w' => e = .returned (.bool r) ∧ Drawn0 w w' := by
 have H : (some (a0 != 10)) = some r := h
 clear h
 obtain rfl := Option.some.inj H
 go_enter Tryd.func43, Tryd.ntmps43
 go_wp2
 go_ret
 exact ⟨by first | rfl | (simp; done) | (simp [*]; done), by repeat (first | exact Drawn0.refl _ | apply Drawn0.step)⟩

end Go.Proofs.YtddbkcfdfgehkaaDoor.Q

-- Written for this claim by the session's own driver (wip/qprint.py) over the kit's printer, out of the translation. Not trusted: Lean checks it.
namespace Go.Proofs.YtddbkcfdfgehkaaDoor.Q
open Go.RowKit Go.Proofs.YtddbkcfdfgehkaaDoorW.PrintWords Go.Proofs.YtddbkcfdfgehkaaDoorW.PrintLast Go.Proofs.YtddbkcfdfgehkaaDoorW.PrintMore
attribute [local go_sem] max2_int min2_int max_two min_two max_three min_three max_four min_four   -- for this text's walks alone
set_option linter.unusedVariables false
set_option linter.unusedSimpArgs false

/-! ### slices_Index_string_string: function 27 -/
def slices_Index_string_string.l0 : Nat → List ByteArray → ByteArray → Int → Int → Option (Int)
 | 0, _, _, _, _ => none
 | k + 1, x0, x1, x7, x8 => if x8 < x7 then (if 0 ≤ x8 then (if x8 < (x0.length : Int) then (if x1.toList = (rdOf ByteArray.empty x0 x8).toList then (some x8) else (slices_Index_string_string.l0 k x0 x1 x7 (wrap64 (x8 + 1)))) else (none)) else (none)) else (some (-1))
def slices_Index_string_string.f (k : Nat) (l0 : List ByteArray) (a1 : ByteArray) : Option (Int) := slices_Index_string_string.l0 k l0 a1 (l0.length : Int) 0
theorem slices_Index_string_string.mono_l : ∀ k, (∀ y0 y1 y2 y3, LeO (slices_Index_string_string.l0 k y0 y1 y2 y3) (slices_Index_string_string.l0 (k + 1) y0 y1 y2 y3))
 | 0 => fun _ _ _ _ r h => by simp [slices_Index_string_string.l0] at h
 | k + 1 => by
  have ih0 := slices_Index_string_string.mono_l k
  ·intro y0 y1 y2 y3
   unfold slices_Index_string_string.l0
   repeat' first
   | (with_reducible exact ih0 _ _ _ _)
   | (with_reducible exact LeO.refl _)
   | (with_reducible exact LeO.none _)
   | (with_reducible refine LeO.ite ?_ ?_)
   | (with_reducible refine LeO.bind ?_ (fun _ => ?_))
   | exact ih0 _ _ _ _
   | exact LeO.none _
   | refine LeO.ite ?_ ?_
   | refine LeO.bind ?_ (fun _ => ?_)
theorem slices_Index_string_string.mono : ∀ a0 a1 k, LeO (slices_Index_string_string.f k a0 a1) (slices_Index_string_string.f (k + 1) a0 a1) := by
 intro a0 a1 k
 have ih0 := slices_Index_string_string.mono_l k
 unfold slices_Index_string_string.f
 repeat' first
   | (with_reducible exact ih0 _ _ _ _)
   | (with_reducible exact LeO.refl _)
   | (with_reducible exact LeO.none _)
   | (with_reducible refine LeO.ite ?_ ?_)
   | (with_reducible refine LeO.bind ?_ (fun _ => ?_))
   | exact ih0 _ _ _ _
   | exact LeO.none _
   | refine LeO.ite ?_ ?_
   | refine LeO.bind ?_ (fun _ => ?_)
set_option maxHeartbeats 8000000 in
set_option maxRecDepth 100000 in
theorem slices_Index_string_string.calls (k : Nat) (A0 : Option Addr) (c0 : Nat) (l0 : List ByteArray) (a1 : ByteArray) (r : Int) (w : World) (hr0 : Kd.C Kd.string w A0 l0.length l0) (hc0 : l0.length ≤ c0) (h : slices_Index_string_string.f k l0 a1 = some r) :
  Calls Tryd.prog 27 #[.slice A0 l0.length c0, .string a1] w fun e w' => e = .returned (.int .i64 r) ∧ Drawn0 w w' := by
 have HR0 := Aside0.mk hr0
 have HC0 := Aside0.mk hc0
 clear hr0 hc0
 have H : (slices_Index_string_string.l0 k l0 a1 (l0.length : Int) 0) = some r := h
 clear h
 have H' := Aside0.mk H
 clear H
 go_enter Tryd.func27, Tryd.ntmps27
 go_wp2
 go_loopg [8] k (fun kq v8 w' => ∃ (x8_1 : Int), v8 = .int .i64 x8_1 ∧ Aside0 (slices_Index_string_string.l0 kq l0 a1 (l0.length : Int) x8_1 = some r) ∧ Aside0 (kq ≤ k) ∧ Drawn0 w w')
 case atStart => exact ⟨(0), (by first | rfl | (simp; done) | (simp [*]; done)), H', ⟨Nat.le_refl _⟩, by repeat (first | exact Drawn0.refl _ | apply Drawn0.step)⟩
 case round =>
  clear H'
  try clear c2
  try clear p2
  obtain ⟨x8_1, rfl, HA, HK1, ⟨m1, rfl⟩⟩ := hrel
  cases gk with
  | zero => exact absurd HA.out (by simp [slices_Index_string_string.l0])
  | succ k1 =>
   have H := HA.out
   clear HA
   simp only [slices_Index_string_string.l0] at H
   by_cases c3 : x8_1 < (l0.length : Int)
   ·rw [if_pos c3] at H
    have c3b0 : decide (x8_1 < (l0.length : Int)) = true := decide_eq_true c3
    clear c3
    by_cases c4 : 0 ≤ x8_1
    ·rw [if_pos c4] at H
     have c4b0 : decide (0 ≤ x8_1) = true := decide_eq_true c4
     clear c4
     by_cases c5 : x8_1 < (l0.length : Int)
     ·rw [if_pos c5] at H
      have c5b0 : decide (x8_1 < (l0.length : Int)) = true := decide_eq_true c5
      clear c5
      by_cases c6 : a1.toList = (rdOf ByteArray.empty l0 x8_1).toList
      ·rw [if_pos c6] at H
       have c6b0 : (a1.toList == (rdOf ByteArray.empty l0 x8_1).toList) = true := beq_iff_eq.mpr c6
       have c6b1 : (a1.toList != (rdOf ByteArray.empty l0 x8_1).toList) = false := bne_eq_false_iff_eq.mpr c6
       clear c6
       obtain rfl := Option.some.inj H
       have p103 : 0 ≤ (x8_1 : Int) := of_decide_eq_true (by first | (with_reducible assumption) | assumption)
       have q103 : x8_1 < (l0.length : Int) := of_decide_eq_true (by first | (with_reducible assumption) | assumption)
       obtain ⟨ad103, e103, hx103_0⟩ := Kd.at_string HR0.out x8_1 p103 q103
       cases e103
       replace p103 := eq_true p103
       replace q103 := eq_true q103
       go_wp2
       go_ret
       exact ⟨by first | rfl | (simp; done) | (simp [*]; done), by repeat (first | exact Drawn0.refl _ | apply Drawn0.step)⟩
      ·rw [if_neg c6] at H
       have c6b0 : (a1.toList == (rdOf ByteArray.empty l0 x8_1).toList) = false := beq_eq_false_iff_ne.mpr c6
       have c6b1 : (a1.toList != (rdOf ByteArray.empty l0 x8_1).toList) = true := bne_iff_ne.mpr c6
       have H' := Aside0.mk H
       clear H
       have p103 : 0 ≤ (x8_1 : Int) := of_decide_eq_true (by first | (with_reducible assumption) | assumption)
       have q103 : x8_1 < (l0.length : Int) := of_decide_eq_true (by first | (with_reducible assumption) | assumption)
       obtain ⟨ad103, e103, hx103_0⟩ := Kd.at_string HR0.out x8_1 p103 q103
       cases e103
       replace p103 := eq_true p103
       replace q103 := eq_true q103
       go_wp2
       go_roundg k1
       case measure => have := HK1.out; omega
       case rel => exact ⟨(wrap64 (x8_1 + 1)), (by first | rfl | (simp; done) | (simp [*]; done)), H', ⟨by have := HK1.out; omega⟩, by repeat (first | exact Drawn0.refl _ | apply Drawn0.step)⟩
     ·rw [if_neg c5] at H
      exact absurd H (by simp)
    ·rw [if_neg c4] at H
     exact absurd H (by simp)
   ·rw [if_neg c3] at H
    have c3b0 : decide (x8_1 < (l0.length : Int)) = false := decide_eq_false c3
    clear c3
    obtain rfl := Option.some.inj H
    go_wp2
    go_ret
    exact ⟨by first | rfl | (simp; done) | (simp [*]; done), by repeat (first | exact Drawn0.refl _ | apply Drawn0.step)⟩

end Go.Proofs.YtddbkcfdfgehkaaDoor.Q

-- Written for this claim by the session's own driver (wip/qprint.py) over the kit's printer, out of the translation. Not trusted: Lean checks it.
namespace Go.Proofs.YtddbkcfdfgehkaaDoor.Q
open Go.RowKit Go.Proofs.YtddbkcfdfgehkaaDoorW.PrintWords Go.Proofs.YtddbkcfdfgehkaaDoorW.PrintLast Go.Proofs.YtddbkcfdfgehkaaDoorW.PrintMore
attribute [local go_sem] max2_int min2_int max_two min_two max_three min_three max_four min_four   -- for this text's walks alone
set_option linter.unusedVariables false
set_option linter.unusedSimpArgs false

/-! ### slices_Contains_string_string: function 44 -/
def slices_Contains_string_string.f (k : Nat) (l0 : List ByteArray) (a1 : ByteArray) : Option (Bool) := (slices_Index_string_string.f k l0 a1).bind fun t104 => (some (decide (t104 ≥ 0)))
theorem slices_Contains_string_string.mono : ∀ a0 a1 k, LeO (slices_Contains_string_string.f k a0 a1) (slices_Contains_string_string.f (k + 1) a0 a1) := by
 intro a0 a1 k
 unfold slices_Contains_string_string.f
 repeat' first
   | (with_reducible exact slices_Index_string_string.mono _ _ _)
   | (with_reducible exact LeO.refl _)
   | (with_reducible exact LeO.none _)
   | (with_reducible refine LeO.ite ?_ ?_)
   | (with_reducible refine LeO.bind ?_ (fun _ => ?_))
   | exact slices_Index_string_string.mono _ _ _
   | exact LeO.none _
   | refine LeO.ite ?_ ?_
   | refine LeO.bind ?_ (fun _ => ?_)
set_option maxHeartbeats 8000000 in
set_option maxRecDepth 100000 in
theorem slices_Contains_string_string.calls (k : Nat) (A0 : Option Addr) (c0 : Nat) (l0 : List ByteArray) (a1 : ByteArray) (r : Bool) (w : World) (hr0 : Kd.C Kd.string w A0 l0.length l0) (hc0 : l0.length ≤ c0) (h : slices_Contains_string_string.f k l0 a1 = some r) :
  Calls Tryd.prog 44 #[.slice A0 l0.length c0, .string a1] w fun e w' => e = .returned (.bool r) ∧ Drawn0 w w' := by
 have HR0 := Aside0.mk hr0
 have HC0 := Aside0.mk hc0
 clear hr0 hc0
 have H : ((slices_Index_string_string.f k l0 a1).bind fun t104 => (some (decide (t104 ≥ 0)))) = some r := h
 clear h
 replace H := Option.bind_eq_some_iff.mp H
 obtain ⟨t104, A30, H⟩ := H
 replace H : (some (decide (t104 ≥ 0))) = some r := H
 have A3 := Aside0.mk A30
 clear A30
 obtain rfl := Option.some.inj H
 go_enter Tryd.func44, Tryd.ntmps44
 go_wp2_with (first | ((with_reducible refine gate_callee (f := 27) rfl ?_); refine goesL_ (some 7) rfl rfl Tryd.func27 (by kernel_rfl) rfl #[.slice A0 l0.length c0, .string a1] rfl (by (try simp only [List.map_toArray, List.map_cons, List.map_nil]); first | done | rfl | (simp only [List.length_drop, List.length_take]; rfl)) ?_; (with_reducible refine (slices_Index_string_string.calls k _ _ l0 a1 t104 _ ?side1 ?side2 A3.out).mono ?_); (case side1 => repeat (first | exact HR0.out | (with_reducible refine Kd.C_alloc ?_ _) | (with_reducible refine Kd.C_drewN ?_ _) | (with_reducible refine Kd.C_drew ?_))); (case side2 => exact HC0.out); rintro e w' ⟨rfl, ⟨nd, rfl⟩⟩; refine ⟨_, rfl, ?_⟩))
 go_ret
 exact ⟨by first | rfl | (simp; done) | (simp [*]; done), by repeat (first | exact Drawn0.refl _ | apply Drawn0.step)⟩

/-! ### task_in: function 46 -/
def task_in.f (a0 : Int) (a1 : Int) (a2 : Int) : Option (Bool) := if a0 ≥ a1 then (some (decide (a0 ≤ a2))) else (some false)
set_option maxHeartbeats 8000000 in
set_option maxRecDepth 100000 in
theorem task_in.calls (a0 : Int) (a1 : Int) (a2 : Int) (r : Bool) (w : World) (h : task_in.f a0 a1 a2 = some r) :
  Calls Tryd.prog 46 #[.int .i64 a0, .int .i64 a1, .int .i64 a2] w fun e w' => e = .returned (.bool r) ∧ Drawn0 w w' := by
 have H : (if a0 ≥ a1 then (some (decide (a0 ≤ a2))) else (some false)) = some r := h
 clear h
 by_cases c4 : a0 ≥ a1
 ·rw [if_pos c4] at H
  have c4b0 : decide (a1 ≤ a0) = true := decide_eq_true c4
  clear c4
  obtain rfl := Option.some.inj H
  go_enter Tryd.func46, Tryd.ntmps46
  go_wp2
  go_ret
  exact ⟨by first | rfl | (simp; done) | (simp [*]; done), by repeat (first | exact Drawn0.refl _ | apply Drawn0.step)⟩
 ·rw [if_neg c4] at H
  have c4b0 : decide (a1 ≤ a0) = false := decide_eq_false c4
  clear c4
  obtain rfl := Option.some.inj H
  go_enter Tryd.func46, Tryd.ntmps46
  go_wp2
  go_ret
  exact ⟨by first | rfl | (simp; done) | (simp [*]; done), by repeat (first | exact Drawn0.refl _ | apply Drawn0.step)⟩

/-! ### task_timed: function 49 -/
def task_timed.f (a0_0 : ByteArray) (a0_1 : Int) (a0_2 : Int) (a0_3 : Int) (a0_4 : Int) (a0_5 : Int) (a0_6 : Int) (a0_7 : Int) (a0_8 : Int) (a0_9 : Int) (a0_10 : Int) (l1 : List (S40)) : Option (Bool) := (task_in.f a0_1 1 1048576).bind fun t106 => (if t106 = true then ((task_in.f a0_2 1 a0_1).bind fun t107 => (if t107 = true then ((task_in.f a0_3 1 a0_2).bind fun t108 => (if t108 = true then ((task_in.f a0_6 0 1000).bind fun t109 => (some t109)) else (some false))) else (some false))) else (some false))
set_option maxHeartbeats 8000000 in
set_option maxRecDepth 100000 in
theorem task_timed.calls (a0_0 : ByteArray) (a0_1 : Int) (a0_2 : Int) (a0_3 : Int) (a0_4 : Int) (a0_5 : Int) (a0_6 : Int) (a0_7 : Int) (a0_8 : Int) (a0_9 : Int) (a0_10 : Int) (A1 : Option Addr) (c1 : Nat) (l1 : List (S40)) (r : Bool) (w : World) (hr1 : Kd.C k40 w A1 l1.length l1) (hc1 : l1.length ≤ c1) (h : task_timed.f a0_0 a0_1 a0_2 a0_3 a0_4 a0_5 a0_6 a0_7 a0_8 a0_9 a0_10 l1 = some r) :
  Calls Tryd.prog 49 #[.agg #[.string a0_0, .int .i64 a0_1, .int .i64 a0_2, .int .i64 a0_3, .int .i64 a0_4, .int .i64 a0_5, .int .i64 a0_6, .int .i64 a0_7, .int .i64 a0_8, .int .i64 a0_9, .int .i64 a0_10], .slice A1 l1.length c1] w fun e w' => e = .returned (.bool r) ∧ Below w.heap.size w w' := by
 have hu40 := Tryd.underlying40
 have HR1 := Aside0.mk hr1
 have HC1 := Aside0.mk hc1
 clear hr1 hc1
 have HB := Aside0.mk (Below.refl w.heap.size w)
 have H : ((task_in.f a0_1 1 1048576).bind fun t106 => (if t106 = true then ((task_in.f a0_2 1 a0_1).bind fun t107 => (if t107 = true then ((task_in.f a0_3 1 a0_2).bind fun t108 => (if t108 = true then ((task_in.f a0_6 0 1000).bind fun t109 => (some t109)) else (some false))) else (some false))) else (some false))) = some r := h
 clear h
 replace H := Option.bind_eq_some_iff.mp H
 obtain ⟨t106, A30, H⟩ := H
 replace H : (if t106 = true then ((task_in.f a0_2 1 a0_1).bind fun t107 => (if t107 = true then ((task_in.f a0_3 1 a0_2).bind fun t108 => (if t108 = true then ((task_in.f a0_6 0 1000).bind fun t109 => (some t109)) else (some false))) else (some false))) else (some false)) = some r := H
 have A3 := Aside0.mk A30
 clear A30
 by_cases c4 : t106 = true
 ·subst c4
  have H1 : ((task_in.f a0_2 1 a0_1).bind fun t107 => (if t107 = true then ((task_in.f a0_3 1 a0_2).bind fun t108 => (if t108 = true then ((task_in.f a0_6 0 1000).bind fun t109 => (some t109)) else (some false))) else (some false))) = some r := by rw [if_pos rfl] at H; exact H
  clear H
  have H := H1
  clear H1
  replace H := Option.bind_eq_some_iff.mp H
  obtain ⟨t107, A50, H⟩ := H
  replace H : (if t107 = true then ((task_in.f a0_3 1 a0_2).bind fun t108 => (if t108 = true then ((task_in.f a0_6 0 1000).bind fun t109 => (some t109)) else (some false))) else (some false)) = some r := H
  have A5 := Aside0.mk A50
  clear A50
  by_cases c6 : t107 = true
  ·subst c6
   have H1 : ((task_in.f a0_3 1 a0_2).bind fun t108 => (if t108 = true then ((task_in.f a0_6 0 1000).bind fun t109 => (some t109)) else (some false))) = some r := by rw [if_pos rfl] at H; exact H
   clear H
   have H := H1
   clear H1
   replace H := Option.bind_eq_some_iff.mp H
   obtain ⟨t108, A70, H⟩ := H
   replace H : (if t108 = true then ((task_in.f a0_6 0 1000).bind fun t109 => (some t109)) else (some false)) = some r := H
   have A7 := Aside0.mk A70
   clear A70
   by_cases c8 : t108 = true
   ·subst c8
    have H1 : ((task_in.f a0_6 0 1000).bind fun t109 => (some t109)) = some r := by rw [if_pos rfl] at H; exact H
    clear H
    have H := H1
    clear H1
    replace H := Option.bind_eq_some_iff.mp H
    obtain ⟨t109, A90, H⟩ := H
    replace H : (some t109) = some r := H
    have A9 := Aside0.mk A90
    clear A90
    obtain rfl := Option.some.inj H
    go_enter Tryd.func49, Tryd.ntmps49
    go_wp2_with (first | ((with_reducible refine gate_dst (N := 2) rfl ?_); refine box_event ?hg (N := 2) ?hd (cs := #[.string a0_0, .int .i64 a0_1, .int .i64 a0_2, .int .i64 a0_3, .int .i64 a0_4, .int .i64 a0_5, .int .i64 a0_6, .int .i64 a0_7, .int .i64 a0_8, .int .i64 a0_9, .int .i64 a0_10]) (t := 40) ?hr ?_; (case hd => rfl); (case hg => rfl); (case hr => first | (go_simp; done) | (go_simp; rfl)); intro gb105 hg w10 hbox hb; have n0_ := Aside0.mk (below_step (by repeat (first | (with_reducible first | exact HB.out | apply below_alloc | apply pw_below_drewN | apply below_drew1) | exact HB.out)) hb); have n1_ := Aside0.mk (hbox); have n2_ := Aside0.mk ((by rw [hg]; exact (below_size (by repeat (first | (with_reducible first | exact HB.out | apply below_alloc | apply pw_below_drewN | apply below_drew1) | exact HB.out))) : w.heap.size ≤ gb105)); have n3_ := Aside0.mk ((by rw [hg]; exact (below_size (by repeat (first | (with_reducible first | exact HB.out | apply below_alloc | apply pw_below_drewN | apply below_drew1) | exact HB.out))) : w.heap.size ≤ gb105)); clear HB; have HB := n0_; have BK105 := n1_; have GW105 := n2_; have GE105 := n3_; clear n0_ n1_ n2_ n3_; clear hb hbox hg; have hcz11_0 : w10.cell? ⟨gb105, 0, none⟩ = some (.string a0_0) := (blk_cell BK105.out 0).trans rfl; have hcz11_1 : w10.cell? ⟨gb105, 1, none⟩ = some (.int .i64 a0_1) := (blk_cell BK105.out 1).trans rfl; have hcz11_2 : w10.cell? ⟨gb105, 2, none⟩ = some (.int .i64 a0_2) := (blk_cell BK105.out 2).trans rfl; have hcz11_3 : w10.cell? ⟨gb105, 3, none⟩ = some (.int .i64 a0_3) := (blk_cell BK105.out 3).trans rfl; have hcz11_4 : w10.cell? ⟨gb105, 4, none⟩ = some (.int .i64 a0_4) := (blk_cell BK105.out 4).trans rfl; have hcz11_5 : w10.cell? ⟨gb105, 5, none⟩ = some (.int .i64 a0_5) := (blk_cell BK105.out 5).trans rfl; have hcz11_6 : w10.cell? ⟨gb105, 6, none⟩ = some (.int .i64 a0_6) := (blk_cell BK105.out 6).trans rfl; have hcz11_7 : w10.cell? ⟨gb105, 7, none⟩ = some (.int .i64 a0_7) := (blk_cell BK105.out 7).trans rfl; have hcz11_8 : w10.cell? ⟨gb105, 8, none⟩ = some (.int .i64 a0_8) := (blk_cell BK105.out 8).trans rfl; have hcz11_9 : w10.cell? ⟨gb105, 9, none⟩ = some (.int .i64 a0_9) := (blk_cell BK105.out 9).trans rfl; have hcz11_10 : w10.cell? ⟨gb105, 10, none⟩ = some (.int .i64 a0_10) := (blk_cell BK105.out 10).trans rfl; have hfz11_0 := blk_frozen BK105.out 0; have hfz11_1 := blk_frozen BK105.out 1; have hfz11_2 := blk_frozen BK105.out 2; have hfz11_3 := blk_frozen BK105.out 3; have hfz11_4 := blk_frozen BK105.out 4; have hfz11_5 := blk_frozen BK105.out 5; have hfz11_6 := blk_frozen BK105.out 6; have hfz11_7 := blk_frozen BK105.out 7; have hfz11_8 := blk_frozen BK105.out 8; have hfz11_9 := blk_frozen BK105.out 9; have hfz11_10 := blk_frozen BK105.out 10) | ((with_reducible refine gate_callee (f := 46) rfl ?_); refine goesL_ (some 7) rfl rfl Tryd.func46 (by kernel_rfl) rfl #[.int .i64 a0_1, .int .i64 1, .int .i64 1048576] rfl (by (try simp only [List.map_toArray, List.map_cons, List.map_nil]); first | done | rfl | (simp only [List.length_drop, List.length_take]; rfl)) ?_; (with_reducible refine (task_in.calls a0_1 1 1048576 true _ A3.out).mono ?_); rintro e w' ⟨rfl, ⟨nd, rfl⟩⟩; refine ⟨_, rfl, ?_⟩; (try clear A3)) | (go_at_call 46; (with_reducible refine (task_in.calls a0_2 1 a0_1 true _ A5.out).mono ?_); rintro e w' ⟨rfl, ⟨nd, rfl⟩⟩; (try clear A5)) | (go_at_call 46; (with_reducible refine (task_in.calls a0_3 1 a0_2 true _ A7.out).mono ?_); rintro e w' ⟨rfl, ⟨nd, rfl⟩⟩; (try clear A7)) | (go_at_call 46; (with_reducible refine (task_in.calls a0_6 0 1000 t109 _ A9.out).mono ?_); rintro e w' ⟨rfl, ⟨nd, rfl⟩⟩))
    go_ret
    exact ⟨by first | rfl | (simp [errW_none, errW_some] <;> rfl) | (simp [*, errW_none, errW_some] <;> rfl), by repeat (first | (with_reducible first | exact HB.out | apply below_alloc | apply pw_below_drewN | apply below_drew1 | refine below_set ?_ GE105.out) | exact HB.out)⟩
   ·replace c8 := Bool.eq_false_iff.mpr c8
    subst c8
    have H1 : (some false) = some r := by rw [if_neg (show ¬ (false = true) by decide)] at H; exact H
    clear H
    have H := H1
    clear H1
    obtain rfl := Option.some.inj H
    go_enter Tryd.func49, Tryd.ntmps49
    go_wp2_with (first | ((with_reducible refine gate_dst (N := 2) rfl ?_); refine box_event ?hg (N := 2) ?hd (cs := #[.string a0_0, .int .i64 a0_1, .int .i64 a0_2, .int .i64 a0_3, .int .i64 a0_4, .int .i64 a0_5, .int .i64 a0_6, .int .i64 a0_7, .int .i64 a0_8, .int .i64 a0_9, .int .i64 a0_10]) (t := 40) ?hr ?_; (case hd => rfl); (case hg => rfl); (case hr => first | (go_simp; done) | (go_simp; rfl)); intro gb105 hg w12 hbox hb; have n0_ := Aside0.mk (below_step (by repeat (first | (with_reducible first | exact HB.out | apply below_alloc | apply pw_below_drewN | apply below_drew1) | exact HB.out)) hb); have n1_ := Aside0.mk (hbox); have n2_ := Aside0.mk ((by rw [hg]; exact (below_size (by repeat (first | (with_reducible first | exact HB.out | apply below_alloc | apply pw_below_drewN | apply below_drew1) | exact HB.out))) : w.heap.size ≤ gb105)); have n3_ := Aside0.mk ((by rw [hg]; exact (below_size (by repeat (first | (with_reducible first | exact HB.out | apply below_alloc | apply pw_below_drewN | apply below_drew1) | exact HB.out))) : w.heap.size ≤ gb105)); clear HB; have HB := n0_; have BK105 := n1_; have GW105 := n2_; have GE105 := n3_; clear n0_ n1_ n2_ n3_; clear hb hbox hg; have hcz13_0 : w12.cell? ⟨gb105, 0, none⟩ = some (.string a0_0) := (blk_cell BK105.out 0).trans rfl; have hcz13_1 : w12.cell? ⟨gb105, 1, none⟩ = some (.int .i64 a0_1) := (blk_cell BK105.out 1).trans rfl; have hcz13_2 : w12.cell? ⟨gb105, 2, none⟩ = some (.int .i64 a0_2) := (blk_cell BK105.out 2).trans rfl; have hcz13_3 : w12.cell? ⟨gb105, 3, none⟩ = some (.int .i64 a0_3) := (blk_cell BK105.out 3).trans rfl; have hcz13_4 : w12.cell? ⟨gb105, 4, none⟩ = some (.int .i64 a0_4) := (blk_cell BK105.out 4).trans rfl; have hcz13_5 : w12.cell? ⟨gb105, 5, none⟩ = some (.int .i64 a0_5) := (blk_cell BK105.out 5).trans rfl; have hcz13_6 : w12.cell? ⟨gb105, 6, none⟩ = some (.int .i64 a0_6) := (blk_cell BK105.out 6).trans rfl; have hcz13_7 : w12.cell? ⟨gb105, 7, none⟩ = some (.int .i64 a0_7) := (blk_cell BK105.out 7).trans rfl; have hcz13_8 : w12.cell? ⟨gb105, 8, none⟩ = some (.int .i64 a0_8) := (blk_cell BK105.out 8).trans rfl; have hcz13_9 : w12.cell? ⟨gb105, 9, none⟩ = some (.int .i64 a0_9) := (blk_cell BK105.out 9).trans rfl; have hcz13_10 : w12.cell? ⟨gb105, 10, none⟩ = some (.int .i64 a0_10) := (blk_cell BK105.out 10).trans rfl; have hfz13_0 := blk_frozen BK105.out 0; have hfz13_1 := blk_frozen BK105.out 1; have hfz13_2 := blk_frozen BK105.out 2; have hfz13_3 := blk_frozen BK105.out 3; have hfz13_4 := blk_frozen BK105.out 4; have hfz13_5 := blk_frozen BK105.out 5; have hfz13_6 := blk_frozen BK105.out 6; have hfz13_7 := blk_frozen BK105.out 7; have hfz13_8 := blk_frozen BK105.out 8; have hfz13_9 := blk_frozen BK105.out 9; have hfz13_10 := blk_frozen BK105.out 10) | ((with_reducible refine gate_callee (f := 46) rfl ?_); refine goesL_ (some 7) rfl rfl Tryd.func46 (by kernel_rfl) rfl #[.int .i64 a0_1, .int .i64 1, .int .i64 1048576] rfl (by (try simp only [List.map_toArray, List.map_cons, List.map_nil]); first | done | rfl | (simp only [List.length_drop, List.length_take]; rfl)) ?_; (with_reducible refine (task_in.calls a0_1 1 1048576 true _ A3.out).mono ?_); rintro e w' ⟨rfl, ⟨nd, rfl⟩⟩; refine ⟨_, rfl, ?_⟩; (try clear A3)) | (go_at_call 46; (with_reducible refine (task_in.calls a0_2 1 a0_1 true _ A5.out).mono ?_); rintro e w' ⟨rfl, ⟨nd, rfl⟩⟩; (try clear A5)) | (go_at_call 46; (with_reducible refine (task_in.calls a0_3 1 a0_2 false _ A7.out).mono ?_); rintro e w' ⟨rfl, ⟨nd, rfl⟩⟩))
    go_ret
    exact ⟨by first | rfl | (simp [errW_none, errW_some] <;> rfl) | (simp [*, errW_none, errW_some] <;> rfl), by repeat (first | (with_reducible first | exact HB.out | apply below_alloc | apply pw_below_drewN | apply below_drew1 | refine below_set ?_ GE105.out) | exact HB.out)⟩
  ·replace c6 := Bool.eq_false_iff.mpr c6
   subst c6
   have H1 : (some false) = some r := by rw [if_neg (show ¬ (false = true) by decide)] at H; exact H
   clear H
   have H := H1
   clear H1
   obtain rfl := Option.some.inj H
   go_enter Tryd.func49, Tryd.ntmps49
   go_wp2_with (first | ((with_reducible refine gate_dst (N := 2) rfl ?_); refine box_event ?hg (N := 2) ?hd (cs := #[.string a0_0, .int .i64 a0_1, .int .i64 a0_2, .int .i64 a0_3, .int .i64 a0_4, .int .i64 a0_5, .int .i64 a0_6, .int .i64 a0_7, .int .i64 a0_8, .int .i64 a0_9, .int .i64 a0_10]) (t := 40) ?hr ?_; (case hd => rfl); (case hg => rfl); (case hr => first | (go_simp; done) | (go_simp; rfl)); intro gb105 hg w14 hbox hb; have n0_ := Aside0.mk (below_step (by repeat (first | (with_reducible first | exact HB.out | apply below_alloc | apply pw_below_drewN | apply below_drew1) | exact HB.out)) hb); have n1_ := Aside0.mk (hbox); have n2_ := Aside0.mk ((by rw [hg]; exact (below_size (by repeat (first | (with_reducible first | exact HB.out | apply below_alloc | apply pw_below_drewN | apply below_drew1) | exact HB.out))) : w.heap.size ≤ gb105)); have n3_ := Aside0.mk ((by rw [hg]; exact (below_size (by repeat (first | (with_reducible first | exact HB.out | apply below_alloc | apply pw_below_drewN | apply below_drew1) | exact HB.out))) : w.heap.size ≤ gb105)); clear HB; have HB := n0_; have BK105 := n1_; have GW105 := n2_; have GE105 := n3_; clear n0_ n1_ n2_ n3_; clear hb hbox hg; have hcz15_0 : w14.cell? ⟨gb105, 0, none⟩ = some (.string a0_0) := (blk_cell BK105.out 0).trans rfl; have hcz15_1 : w14.cell? ⟨gb105, 1, none⟩ = some (.int .i64 a0_1) := (blk_cell BK105.out 1).trans rfl; have hcz15_2 : w14.cell? ⟨gb105, 2, none⟩ = some (.int .i64 a0_2) := (blk_cell BK105.out 2).trans rfl; have hcz15_3 : w14.cell? ⟨gb105, 3, none⟩ = some (.int .i64 a0_3) := (blk_cell BK105.out 3).trans rfl; have hcz15_4 : w14.cell? ⟨gb105, 4, none⟩ = some (.int .i64 a0_4) := (blk_cell BK105.out 4).trans rfl; have hcz15_5 : w14.cell? ⟨gb105, 5, none⟩ = some (.int .i64 a0_5) := (blk_cell BK105.out 5).trans rfl; have hcz15_6 : w14.cell? ⟨gb105, 6, none⟩ = some (.int .i64 a0_6) := (blk_cell BK105.out 6).trans rfl; have hcz15_7 : w14.cell? ⟨gb105, 7, none⟩ = some (.int .i64 a0_7) := (blk_cell BK105.out 7).trans rfl; have hcz15_8 : w14.cell? ⟨gb105, 8, none⟩ = some (.int .i64 a0_8) := (blk_cell BK105.out 8).trans rfl; have hcz15_9 : w14.cell? ⟨gb105, 9, none⟩ = some (.int .i64 a0_9) := (blk_cell BK105.out 9).trans rfl; have hcz15_10 : w14.cell? ⟨gb105, 10, none⟩ = some (.int .i64 a0_10) := (blk_cell BK105.out 10).trans rfl; have hfz15_0 := blk_frozen BK105.out 0; have hfz15_1 := blk_frozen BK105.out 1; have hfz15_2 := blk_frozen BK105.out 2; have hfz15_3 := blk_frozen BK105.out 3; have hfz15_4 := blk_frozen BK105.out 4; have hfz15_5 := blk_frozen BK105.out 5; have hfz15_6 := blk_frozen BK105.out 6; have hfz15_7 := blk_frozen BK105.out 7; have hfz15_8 := blk_frozen BK105.out 8; have hfz15_9 := blk_frozen BK105.out 9; have hfz15_10 := blk_frozen BK105.out 10) | ((with_reducible refine gate_callee (f := 46) rfl ?_); refine goesL_ (some 7) rfl rfl Tryd.func46 (by kernel_rfl) rfl #[.int .i64 a0_1, .int .i64 1, .int .i64 1048576] rfl (by (try simp only [List.map_toArray, List.map_cons, List.map_nil]); first | done | rfl | (simp only [List.length_drop, List.length_take]; rfl)) ?_; (with_reducible refine (task_in.calls a0_1 1 1048576 true _ A3.out).mono ?_); rintro e w' ⟨rfl, ⟨nd, rfl⟩⟩; refine ⟨_, rfl, ?_⟩; (try clear A3)) | (go_at_call 46; (with_reducible refine (task_in.calls a0_2 1 a0_1 false _ A5.out).mono ?_); rintro e w' ⟨rfl, ⟨nd, rfl⟩⟩))
   go_ret
   exact ⟨by first | rfl | (simp [errW_none, errW_some] <;> rfl) | (simp [*, errW_none, errW_some] <;> rfl), by repeat (first | (with_reducible first | exact HB.out | apply below_alloc | apply pw_below_drewN | apply below_drew1 | refine below_set ?_ GE105.out) | exact HB.out)⟩
 ·replace c4 := Bool.eq_false_iff.mpr c4
  subst c4
  have H1 : (some false) = some r := by rw [if_neg (show ¬ (false = true) by decide)] at H; exact H
  clear H
  have H := H1
  clear H1
  obtain rfl := Option.some.inj H
  go_enter Tryd.func49, Tryd.ntmps49
  go_wp2_with (first | ((with_reducible refine gate_dst (N := 2) rfl ?_); refine box_event ?hg (N := 2) ?hd (cs := #[.string a0_0, .int .i64 a0_1, .int .i64 a0_2, .int .i64 a0_3, .int .i64 a0_4, .int .i64 a0_5, .int .i64 a0_6, .int .i64 a0_7, .int .i64 a0_8, .int .i64 a0_9, .int .i64 a0_10]) (t := 40) ?hr ?_; (case hd => rfl); (case hg => rfl); (case hr => first | (go_simp; done) | (go_simp; rfl)); intro gb105 hg w16 hbox hb; have n0_ := Aside0.mk (below_step (by repeat (first | (with_reducible first | exact HB.out | apply below_alloc | apply pw_below_drewN | apply below_drew1) | exact HB.out)) hb); have n1_ := Aside0.mk (hbox); have n2_ := Aside0.mk ((by rw [hg]; exact (below_size (by repeat (first | (with_reducible first | exact HB.out | apply below_alloc | apply pw_below_drewN | apply below_drew1) | exact HB.out))) : w.heap.size ≤ gb105)); have n3_ := Aside0.mk ((by rw [hg]; exact (below_size (by repeat (first | (with_reducible first | exact HB.out | apply below_alloc | apply pw_below_drewN | apply below_drew1) | exact HB.out))) : w.heap.size ≤ gb105)); clear HB; have HB := n0_; have BK105 := n1_; have GW105 := n2_; have GE105 := n3_; clear n0_ n1_ n2_ n3_; clear hb hbox hg; have hcz17_0 : w16.cell? ⟨gb105, 0, none⟩ = some (.string a0_0) := (blk_cell BK105.out 0).trans rfl; have hcz17_1 : w16.cell? ⟨gb105, 1, none⟩ = some (.int .i64 a0_1) := (blk_cell BK105.out 1).trans rfl; have hcz17_2 : w16.cell? ⟨gb105, 2, none⟩ = some (.int .i64 a0_2) := (blk_cell BK105.out 2).trans rfl; have hcz17_3 : w16.cell? ⟨gb105, 3, none⟩ = some (.int .i64 a0_3) := (blk_cell BK105.out 3).trans rfl; have hcz17_4 : w16.cell? ⟨gb105, 4, none⟩ = some (.int .i64 a0_4) := (blk_cell BK105.out 4).trans rfl; have hcz17_5 : w16.cell? ⟨gb105, 5, none⟩ = some (.int .i64 a0_5) := (blk_cell BK105.out 5).trans rfl; have hcz17_6 : w16.cell? ⟨gb105, 6, none⟩ = some (.int .i64 a0_6) := (blk_cell BK105.out 6).trans rfl; have hcz17_7 : w16.cell? ⟨gb105, 7, none⟩ = some (.int .i64 a0_7) := (blk_cell BK105.out 7).trans rfl; have hcz17_8 : w16.cell? ⟨gb105, 8, none⟩ = some (.int .i64 a0_8) := (blk_cell BK105.out 8).trans rfl; have hcz17_9 : w16.cell? ⟨gb105, 9, none⟩ = some (.int .i64 a0_9) := (blk_cell BK105.out 9).trans rfl; have hcz17_10 : w16.cell? ⟨gb105, 10, none⟩ = some (.int .i64 a0_10) := (blk_cell BK105.out 10).trans rfl; have hfz17_0 := blk_frozen BK105.out 0; have hfz17_1 := blk_frozen BK105.out 1; have hfz17_2 := blk_frozen BK105.out 2; have hfz17_3 := blk_frozen BK105.out 3; have hfz17_4 := blk_frozen BK105.out 4; have hfz17_5 := blk_frozen BK105.out 5; have hfz17_6 := blk_frozen BK105.out 6; have hfz17_7 := blk_frozen BK105.out 7; have hfz17_8 := blk_frozen BK105.out 8; have hfz17_9 := blk_frozen BK105.out 9; have hfz17_10 := blk_frozen BK105.out 10) | ((with_reducible refine gate_callee (f := 46) rfl ?_); refine goesL_ (some 7) rfl rfl Tryd.func46 (by kernel_rfl) rfl #[.int .i64 a0_1, .int .i64 1, .int .i64 1048576] rfl (by (try simp only [List.map_toArray, List.map_cons, List.map_nil]); first | done | rfl | (simp only [List.length_drop, List.length_take]; rfl)) ?_; (with_reducible refine (task_in.calls a0_1 1 1048576 false _ A3.out).mono ?_); rintro e w' ⟨rfl, ⟨nd, rfl⟩⟩; refine ⟨_, rfl, ?_⟩))
  go_ret
  exact ⟨by first | rfl | (simp [errW_none, errW_some] <;> rfl) | (simp [*, errW_none, errW_some] <;> rfl), by repeat (first | (with_reducible first | exact HB.out | apply below_alloc | apply pw_below_drewN | apply below_drew1 | refine below_set ?_ GE105.out) | exact HB.out)⟩

/-! ### task_moded: function 50 -/
def task_moded.f (a0_0 : ByteArray) (a0_1 : Int) (a0_2 : Int) (a0_3 : Int) (a0_4 : Int) (a0_5 : Int) (a0_6 : Int) (a0_7 : Int) (a0_8 : Int) (a0_9 : Int) (a0_10 : Int) (l1 : List (S40)) : Option (Bool) := if a0_9 = 1 then ((task_in.f a0_5 1 a0_3).bind fun t111 => (if t111 = true then (some (a0_4 == 0)) else (some false))) else ((task_in.f a0_9 2 3).bind fun t112 => (if t112 = true then ((task_in.f a0_4 1 a0_2).bind fun t113 => (if t113 = true then (some (a0_5 == 0)) else (some false))) else (some false)))
set_option maxHeartbeats 8000000 in
set_option maxRecDepth 100000 in
theorem task_moded.calls (a0_0 : ByteArray) (a0_1 : Int) (a0_2 : Int) (a0_3 : Int) (a0_4 : Int) (a0_5 : Int) (a0_6 : Int) (a0_7 : Int) (a0_8 : Int) (a0_9 : Int) (a0_10 : Int) (A1 : Option Addr) (c1 : Nat) (l1 : List (S40)) (r : Bool) (w : World) (hr1 : Kd.C k40 w A1 l1.length l1) (hc1 : l1.length ≤ c1) (h : task_moded.f a0_0 a0_1 a0_2 a0_3 a0_4 a0_5 a0_6 a0_7 a0_8 a0_9 a0_10 l1 = some r) :
  Calls Tryd.prog 50 #[.agg #[.string a0_0, .int .i64 a0_1, .int .i64 a0_2, .int .i64 a0_3, .int .i64 a0_4, .int .i64 a0_5, .int .i64 a0_6, .int .i64 a0_7, .int .i64 a0_8, .int .i64 a0_9, .int .i64 a0_10], .slice A1 l1.length c1] w fun e w' => e = .returned (.bool r) ∧ Below w.heap.size w w' := by
 have hu40 := Tryd.underlying40
 have HR1 := Aside0.mk hr1
 have HC1 := Aside0.mk hc1
 clear hr1 hc1
 have HB := Aside0.mk (Below.refl w.heap.size w)
 have H : (if a0_9 = 1 then ((task_in.f a0_5 1 a0_3).bind fun t111 => (if t111 = true then (some (a0_4 == 0)) else (some false))) else ((task_in.f a0_9 2 3).bind fun t112 => (if t112 = true then ((task_in.f a0_4 1 a0_2).bind fun t113 => (if t113 = true then (some (a0_5 == 0)) else (some false))) else (some false)))) = some r := h
 clear h
 by_cases c3 : a0_9 = 1
 ·rw [if_pos c3] at H
  have c3b0 : (a0_9 == 1) = true := beq_iff_eq.mpr c3
  have c3b1 : (a0_9 != 1) = false := bne_eq_false_iff_eq.mpr c3
  clear c3
  replace H := Option.bind_eq_some_iff.mp H
  obtain ⟨t111, A40, H⟩ := H
  replace H : (if t111 = true then (some (a0_4 == 0)) else (some false)) = some r := H
  have A4 := Aside0.mk A40
  clear A40
  by_cases c5 : t111 = true
  ·subst c5
   have H1 : (some (a0_4 == 0)) = some r := by rw [if_pos rfl] at H; exact H
   clear H
   have H := H1
   clear H1
   obtain rfl := Option.some.inj H
   go_enter Tryd.func50, Tryd.ntmps50
   go_wp2_with (first | ((with_reducible refine gate_dst (N := 2) rfl ?_); refine box_event ?hg (N := 2) ?hd (cs := #[.string a0_0, .int .i64 a0_1, .int .i64 a0_2, .int .i64 a0_3, .int .i64 a0_4, .int .i64 a0_5, .int .i64 a0_6, .int .i64 a0_7, .int .i64 a0_8, .int .i64 a0_9, .int .i64 a0_10]) (t := 40) ?hr ?_; (case hd => rfl); (case hg => rfl); (case hr => first | (go_simp; done) | (go_simp; rfl)); intro gb110 hg w6 hbox hb; have n0_ := Aside0.mk (below_step (by repeat (first | (with_reducible first | exact HB.out | apply below_alloc | apply pw_below_drewN | apply below_drew1) | exact HB.out)) hb); have n1_ := Aside0.mk (hbox); have n2_ := Aside0.mk ((by rw [hg]; exact (below_size (by repeat (first | (with_reducible first | exact HB.out | apply below_alloc | apply pw_below_drewN | apply below_drew1) | exact HB.out))) : w.heap.size ≤ gb110)); have n3_ := Aside0.mk ((by rw [hg]; exact (below_size (by repeat (first | (with_reducible first | exact HB.out | apply below_alloc | apply pw_below_drewN | apply below_drew1) | exact HB.out))) : w.heap.size ≤ gb110)); clear HB; have HB := n0_; have BK110 := n1_; have GW110 := n2_; have GE110 := n3_; clear n0_ n1_ n2_ n3_; clear hb hbox hg; have hcz7_0 : w6.cell? ⟨gb110, 0, none⟩ = some (.string a0_0) := (blk_cell BK110.out 0).trans rfl; have hcz7_1 : w6.cell? ⟨gb110, 1, none⟩ = some (.int .i64 a0_1) := (blk_cell BK110.out 1).trans rfl; have hcz7_2 : w6.cell? ⟨gb110, 2, none⟩ = some (.int .i64 a0_2) := (blk_cell BK110.out 2).trans rfl; have hcz7_3 : w6.cell? ⟨gb110, 3, none⟩ = some (.int .i64 a0_3) := (blk_cell BK110.out 3).trans rfl; have hcz7_4 : w6.cell? ⟨gb110, 4, none⟩ = some (.int .i64 a0_4) := (blk_cell BK110.out 4).trans rfl; have hcz7_5 : w6.cell? ⟨gb110, 5, none⟩ = some (.int .i64 a0_5) := (blk_cell BK110.out 5).trans rfl; have hcz7_6 : w6.cell? ⟨gb110, 6, none⟩ = some (.int .i64 a0_6) := (blk_cell BK110.out 6).trans rfl; have hcz7_7 : w6.cell? ⟨gb110, 7, none⟩ = some (.int .i64 a0_7) := (blk_cell BK110.out 7).trans rfl; have hcz7_8 : w6.cell? ⟨gb110, 8, none⟩ = some (.int .i64 a0_8) := (blk_cell BK110.out 8).trans rfl; have hcz7_9 : w6.cell? ⟨gb110, 9, none⟩ = some (.int .i64 a0_9) := (blk_cell BK110.out 9).trans rfl; have hcz7_10 : w6.cell? ⟨gb110, 10, none⟩ = some (.int .i64 a0_10) := (blk_cell BK110.out 10).trans rfl; have hfz7_0 := blk_frozen BK110.out 0; have hfz7_1 := blk_frozen BK110.out 1; have hfz7_2 := blk_frozen BK110.out 2; have hfz7_3 := blk_frozen BK110.out 3; have hfz7_4 := blk_frozen BK110.out 4; have hfz7_5 := blk_frozen BK110.out 5; have hfz7_6 := blk_frozen BK110.out 6; have hfz7_7 := blk_frozen BK110.out 7; have hfz7_8 := blk_frozen BK110.out 8; have hfz7_9 := blk_frozen BK110.out 9; have hfz7_10 := blk_frozen BK110.out 10) | ((with_reducible refine gate_callee (f := 46) rfl ?_); refine goesL_ (some 12) rfl rfl Tryd.func46 (by kernel_rfl) rfl #[.int .i64 a0_5, .int .i64 1, .int .i64 a0_3] rfl (by (try simp only [List.map_toArray, List.map_cons, List.map_nil]); first | done | rfl | (simp only [List.length_drop, List.length_take]; rfl)) ?_; (with_reducible refine (task_in.calls a0_5 1 a0_3 true _ A4.out).mono ?_); rintro e w' ⟨rfl, ⟨nd, rfl⟩⟩; refine ⟨_, rfl, ?_⟩))
   go_ret
   exact ⟨by first | rfl | (simp [errW_none, errW_some] <;> rfl) | (simp [*, errW_none, errW_some] <;> rfl), by repeat (first | (with_reducible first | exact HB.out | apply below_alloc | apply pw_below_drewN | apply below_drew1 | refine below_set ?_ GE110.out) | exact HB.out)⟩
  ·replace c5 := Bool.eq_false_iff.mpr c5
   subst c5
   have H1 : (some false) = some r := by rw [if_neg (show ¬ (false = true) by decide)] at H; exact H
   clear H
   have H := H1
   clear H1
   obtain rfl := Option.some.inj H
   go_enter Tryd.func50, Tryd.ntmps50
   go_wp2_with (first | ((with_reducible refine gate_dst (N := 2) rfl ?_); refine box_event ?hg (N := 2) ?hd (cs := #[.string a0_0, .int .i64 a0_1, .int .i64 a0_2, .int .i64 a0_3, .int .i64 a0_4, .int .i64 a0_5, .int .i64 a0_6, .int .i64 a0_7, .int .i64 a0_8, .int .i64 a0_9, .int .i64 a0_10]) (t := 40) ?hr ?_; (case hd => rfl); (case hg => rfl); (case hr => first | (go_simp; done) | (go_simp; rfl)); intro gb110 hg w8 hbox hb; have n0_ := Aside0.mk (below_step (by repeat (first | (with_reducible first | exact HB.out | apply below_alloc | apply pw_below_drewN | apply below_drew1) | exact HB.out)) hb); have n1_ := Aside0.mk (hbox); have n2_ := Aside0.mk ((by rw [hg]; exact (below_size (by repeat (first | (with_reducible first | exact HB.out | apply below_alloc | apply pw_below_drewN | apply below_drew1) | exact HB.out))) : w.heap.size ≤ gb110)); have n3_ := Aside0.mk ((by rw [hg]; exact (below_size (by repeat (first | (with_reducible first | exact HB.out | apply below_alloc | apply pw_below_drewN | apply below_drew1) | exact HB.out))) : w.heap.size ≤ gb110)); clear HB; have HB := n0_; have BK110 := n1_; have GW110 := n2_; have GE110 := n3_; clear n0_ n1_ n2_ n3_; clear hb hbox hg; have hcz9_0 : w8.cell? ⟨gb110, 0, none⟩ = some (.string a0_0) := (blk_cell BK110.out 0).trans rfl; have hcz9_1 : w8.cell? ⟨gb110, 1, none⟩ = some (.int .i64 a0_1) := (blk_cell BK110.out 1).trans rfl; have hcz9_2 : w8.cell? ⟨gb110, 2, none⟩ = some (.int .i64 a0_2) := (blk_cell BK110.out 2).trans rfl; have hcz9_3 : w8.cell? ⟨gb110, 3, none⟩ = some (.int .i64 a0_3) := (blk_cell BK110.out 3).trans rfl; have hcz9_4 : w8.cell? ⟨gb110, 4, none⟩ = some (.int .i64 a0_4) := (blk_cell BK110.out 4).trans rfl; have hcz9_5 : w8.cell? ⟨gb110, 5, none⟩ = some (.int .i64 a0_5) := (blk_cell BK110.out 5).trans rfl; have hcz9_6 : w8.cell? ⟨gb110, 6, none⟩ = some (.int .i64 a0_6) := (blk_cell BK110.out 6).trans rfl; have hcz9_7 : w8.cell? ⟨gb110, 7, none⟩ = some (.int .i64 a0_7) := (blk_cell BK110.out 7).trans rfl; have hcz9_8 : w8.cell? ⟨gb110, 8, none⟩ = some (.int .i64 a0_8) := (blk_cell BK110.out 8).trans rfl; have hcz9_9 : w8.cell? ⟨gb110, 9, none⟩ = some (.int .i64 a0_9) := (blk_cell BK110.out 9).trans rfl; have hcz9_10 : w8.cell? ⟨gb110, 10, none⟩ = some (.int .i64 a0_10) := (blk_cell BK110.out 10).trans rfl; have hfz9_0 := blk_frozen BK110.out 0; have hfz9_1 := blk_frozen BK110.out 1; have hfz9_2 := blk_frozen BK110.out 2; have hfz9_3 := blk_frozen BK110.out 3; have hfz9_4 := blk_frozen BK110.out 4; have hfz9_5 := blk_frozen BK110.out 5; have hfz9_6 := blk_frozen BK110.out 6; have hfz9_7 := blk_frozen BK110.out 7; have hfz9_8 := blk_frozen BK110.out 8; have hfz9_9 := blk_frozen BK110.out 9; have hfz9_10 := blk_frozen BK110.out 10) | ((with_reducible refine gate_callee (f := 46) rfl ?_); refine goesL_ (some 12) rfl rfl Tryd.func46 (by kernel_rfl) rfl #[.int .i64 a0_5, .int .i64 1, .int .i64 a0_3] rfl (by (try simp only [List.map_toArray, List.map_cons, List.map_nil]); first | done | rfl | (simp only [List.length_drop, List.length_take]; rfl)) ?_; (with_reducible refine (task_in.calls a0_5 1 a0_3 false _ A4.out).mono ?_); rintro e w' ⟨rfl, ⟨nd, rfl⟩⟩; refine ⟨_, rfl, ?_⟩))
   go_ret
   exact ⟨by first | rfl | (simp [errW_none, errW_some] <;> rfl) | (simp [*, errW_none, errW_some] <;> rfl), by repeat (first | (with_reducible first | exact HB.out | apply below_alloc | apply pw_below_drewN | apply below_drew1 | refine below_set ?_ GE110.out) | exact HB.out)⟩
 ·rw [if_neg c3] at H
  have c3b0 : (a0_9 == 1) = false := beq_eq_false_iff_ne.mpr c3
  have c3b1 : (a0_9 != 1) = true := bne_iff_ne.mpr c3
  replace H := Option.bind_eq_some_iff.mp H
  obtain ⟨t112, A100, H⟩ := H
  replace H : (if t112 = true then ((task_in.f a0_4 1 a0_2).bind fun t113 => (if t113 = true then (some (a0_5 == 0)) else (some false))) else (some false)) = some r := H
  have A10 := Aside0.mk A100
  clear A100
  by_cases c11 : t112 = true
  ·subst c11
   have H1 : ((task_in.f a0_4 1 a0_2).bind fun t113 => (if t113 = true then (some (a0_5 == 0)) else (some false))) = some r := by rw [if_pos rfl] at H; exact H
   clear H
   have H := H1
   clear H1
   replace H := Option.bind_eq_some_iff.mp H
   obtain ⟨t113, A120, H⟩ := H
   replace H : (if t113 = true then (some (a0_5 == 0)) else (some false)) = some r := H
   have A12 := Aside0.mk A120
   clear A120
   by_cases c13 : t113 = true
   ·subst c13
    have H1 : (some (a0_5 == 0)) = some r := by rw [if_pos rfl] at H; exact H
    clear H
    have H := H1
    clear H1
    obtain rfl := Option.some.inj H
    go_enter Tryd.func50, Tryd.ntmps50
    go_wp2_with (first | ((with_reducible refine gate_dst (N := 2) rfl ?_); refine box_event ?hg (N := 2) ?hd (cs := #[.string a0_0, .int .i64 a0_1, .int .i64 a0_2, .int .i64 a0_3, .int .i64 a0_4, .int .i64 a0_5, .int .i64 a0_6, .int .i64 a0_7, .int .i64 a0_8, .int .i64 a0_9, .int .i64 a0_10]) (t := 40) ?hr ?_; (case hd => rfl); (case hg => rfl); (case hr => first | (go_simp; done) | (go_simp; rfl)); intro gb110 hg w14 hbox hb; have n0_ := Aside0.mk (below_step (by repeat (first | (with_reducible first | exact HB.out | apply below_alloc | apply pw_below_drewN | apply below_drew1) | exact HB.out)) hb); have n1_ := Aside0.mk (hbox); have n2_ := Aside0.mk ((by rw [hg]; exact (below_size (by repeat (first | (with_reducible first | exact HB.out | apply below_alloc | apply pw_below_drewN | apply below_drew1) | exact HB.out))) : w.heap.size ≤ gb110)); have n3_ := Aside0.mk ((by rw [hg]; exact (below_size (by repeat (first | (with_reducible first | exact HB.out | apply below_alloc | apply pw_below_drewN | apply below_drew1) | exact HB.out))) : w.heap.size ≤ gb110)); clear HB; have HB := n0_; have BK110 := n1_; have GW110 := n2_; have GE110 := n3_; clear n0_ n1_ n2_ n3_; clear hb hbox hg; have hcz15_0 : w14.cell? ⟨gb110, 0, none⟩ = some (.string a0_0) := (blk_cell BK110.out 0).trans rfl; have hcz15_1 : w14.cell? ⟨gb110, 1, none⟩ = some (.int .i64 a0_1) := (blk_cell BK110.out 1).trans rfl; have hcz15_2 : w14.cell? ⟨gb110, 2, none⟩ = some (.int .i64 a0_2) := (blk_cell BK110.out 2).trans rfl; have hcz15_3 : w14.cell? ⟨gb110, 3, none⟩ = some (.int .i64 a0_3) := (blk_cell BK110.out 3).trans rfl; have hcz15_4 : w14.cell? ⟨gb110, 4, none⟩ = some (.int .i64 a0_4) := (blk_cell BK110.out 4).trans rfl; have hcz15_5 : w14.cell? ⟨gb110, 5, none⟩ = some (.int .i64 a0_5) := (blk_cell BK110.out 5).trans rfl; have hcz15_6 : w14.cell? ⟨gb110, 6, none⟩ = some (.int .i64 a0_6) := (blk_cell BK110.out 6).trans rfl; have hcz15_7 : w14.cell? ⟨gb110, 7, none⟩ = some (.int .i64 a0_7) := (blk_cell BK110.out 7).trans rfl; have hcz15_8 : w14.cell? ⟨gb110, 8, none⟩ = some (.int .i64 a0_8) := (blk_cell BK110.out 8).trans rfl; have hcz15_9 : w14.cell? ⟨gb110, 9, none⟩ = some (.int .i64 a0_9) := (blk_cell BK110.out 9).trans rfl; have hcz15_10 : w14.cell? ⟨gb110, 10, none⟩ = some (.int .i64 a0_10) := (blk_cell BK110.out 10).trans rfl; have hfz15_0 := blk_frozen BK110.out 0; have hfz15_1 := blk_frozen BK110.out 1; have hfz15_2 := blk_frozen BK110.out 2; have hfz15_3 := blk_frozen BK110.out 3; have hfz15_4 := blk_frozen BK110.out 4; have hfz15_5 := blk_frozen BK110.out 5; have hfz15_6 := blk_frozen BK110.out 6; have hfz15_7 := blk_frozen BK110.out 7; have hfz15_8 := blk_frozen BK110.out 8; have hfz15_9 := blk_frozen BK110.out 9; have hfz15_10 := blk_frozen BK110.out 10) | ((with_reducible refine gate_callee (f := 46) rfl ?_); refine goesL_ (some 20) rfl rfl Tryd.func46 (by kernel_rfl) rfl #[.int .i64 a0_9, .int .i64 2, .int .i64 3] rfl (by (try simp only [List.map_toArray, List.map_cons, List.map_nil]); first | done | rfl | (simp only [List.length_drop, List.length_take]; rfl)) ?_; (with_reducible refine (task_in.calls a0_9 2 3 true _ A10.out).mono ?_); rintro e w' ⟨rfl, ⟨nd, rfl⟩⟩; refine ⟨_, rfl, ?_⟩; (try clear A10)) | (go_at_call 46; (with_reducible refine (task_in.calls a0_4 1 a0_2 true _ A12.out).mono ?_); rintro e w' ⟨rfl, ⟨nd, rfl⟩⟩))
    go_ret
    exact ⟨by first | rfl | (simp [errW_none, errW_some] <;> rfl) | (simp [*, errW_none, errW_some] <;> rfl), by repeat (first | (with_reducible first | exact HB.out | apply below_alloc | apply pw_below_drewN | apply below_drew1 | refine below_set ?_ GE110.out) | exact HB.out)⟩
   ·replace c13 := Bool.eq_false_iff.mpr c13
    subst c13
    have H1 : (some false) = some r := by rw [if_neg (show ¬ (false = true) by decide)] at H; exact H
    clear H
    have H := H1
    clear H1
    obtain rfl := Option.some.inj H
    go_enter Tryd.func50, Tryd.ntmps50
    go_wp2_with (first | ((with_reducible refine gate_dst (N := 2) rfl ?_); refine box_event ?hg (N := 2) ?hd (cs := #[.string a0_0, .int .i64 a0_1, .int .i64 a0_2, .int .i64 a0_3, .int .i64 a0_4, .int .i64 a0_5, .int .i64 a0_6, .int .i64 a0_7, .int .i64 a0_8, .int .i64 a0_9, .int .i64 a0_10]) (t := 40) ?hr ?_; (case hd => rfl); (case hg => rfl); (case hr => first | (go_simp; done) | (go_simp; rfl)); intro gb110 hg w16 hbox hb; have n0_ := Aside0.mk (below_step (by repeat (first | (with_reducible first | exact HB.out | apply below_alloc | apply pw_below_drewN | apply below_drew1) | exact HB.out)) hb); have n1_ := Aside0.mk (hbox); have n2_ := Aside0.mk ((by rw [hg]; exact (below_size (by repeat (first | (with_reducible first | exact HB.out | apply below_alloc | apply pw_below_drewN | apply below_drew1) | exact HB.out))) : w.heap.size ≤ gb110)); have n3_ := Aside0.mk ((by rw [hg]; exact (below_size (by repeat (first | (with_reducible first | exact HB.out | apply below_alloc | apply pw_below_drewN | apply below_drew1) | exact HB.out))) : w.heap.size ≤ gb110)); clear HB; have HB := n0_; have BK110 := n1_; have GW110 := n2_; have GE110 := n3_; clear n0_ n1_ n2_ n3_; clear hb hbox hg; have hcz17_0 : w16.cell? ⟨gb110, 0, none⟩ = some (.string a0_0) := (blk_cell BK110.out 0).trans rfl; have hcz17_1 : w16.cell? ⟨gb110, 1, none⟩ = some (.int .i64 a0_1) := (blk_cell BK110.out 1).trans rfl; have hcz17_2 : w16.cell? ⟨gb110, 2, none⟩ = some (.int .i64 a0_2) := (blk_cell BK110.out 2).trans rfl; have hcz17_3 : w16.cell? ⟨gb110, 3, none⟩ = some (.int .i64 a0_3) := (blk_cell BK110.out 3).trans rfl; have hcz17_4 : w16.cell? ⟨gb110, 4, none⟩ = some (.int .i64 a0_4) := (blk_cell BK110.out 4).trans rfl; have hcz17_5 : w16.cell? ⟨gb110, 5, none⟩ = some (.int .i64 a0_5) := (blk_cell BK110.out 5).trans rfl; have hcz17_6 : w16.cell? ⟨gb110, 6, none⟩ = some (.int .i64 a0_6) := (blk_cell BK110.out 6).trans rfl; have hcz17_7 : w16.cell? ⟨gb110, 7, none⟩ = some (.int .i64 a0_7) := (blk_cell BK110.out 7).trans rfl; have hcz17_8 : w16.cell? ⟨gb110, 8, none⟩ = some (.int .i64 a0_8) := (blk_cell BK110.out 8).trans rfl; have hcz17_9 : w16.cell? ⟨gb110, 9, none⟩ = some (.int .i64 a0_9) := (blk_cell BK110.out 9).trans rfl; have hcz17_10 : w16.cell? ⟨gb110, 10, none⟩ = some (.int .i64 a0_10) := (blk_cell BK110.out 10).trans rfl; have hfz17_0 := blk_frozen BK110.out 0; have hfz17_1 := blk_frozen BK110.out 1; have hfz17_2 := blk_frozen BK110.out 2; have hfz17_3 := blk_frozen BK110.out 3; have hfz17_4 := blk_frozen BK110.out 4; have hfz17_5 := blk_frozen BK110.out 5; have hfz17_6 := blk_frozen BK110.out 6; have hfz17_7 := blk_frozen BK110.out 7; have hfz17_8 := blk_frozen BK110.out 8; have hfz17_9 := blk_frozen BK110.out 9; have hfz17_10 := blk_frozen BK110.out 10) | ((with_reducible refine gate_callee (f := 46) rfl ?_); refine goesL_ (some 20) rfl rfl Tryd.func46 (by kernel_rfl) rfl #[.int .i64 a0_9, .int .i64 2, .int .i64 3] rfl (by (try simp only [List.map_toArray, List.map_cons, List.map_nil]); first | done | rfl | (simp only [List.length_drop, List.length_take]; rfl)) ?_; (with_reducible refine (task_in.calls a0_9 2 3 true _ A10.out).mono ?_); rintro e w' ⟨rfl, ⟨nd, rfl⟩⟩; refine ⟨_, rfl, ?_⟩; (try clear A10)) | (go_at_call 46; (with_reducible refine (task_in.calls a0_4 1 a0_2 false _ A12.out).mono ?_); rintro e w' ⟨rfl, ⟨nd, rfl⟩⟩))
    go_ret
    exact ⟨by first | rfl | (simp [errW_none, errW_some] <;> rfl) | (simp [*, errW_none, errW_some] <;> rfl), by repeat (first | (with_reducible first | exact HB.out | apply below_alloc | apply pw_below_drewN | apply below_drew1 | refine below_set ?_ GE110.out) | exact HB.out)⟩
  ·replace c11 := Bool.eq_false_iff.mpr c11
   subst c11
   have H1 : (some false) = some r := by rw [if_neg (show ¬ (false = true) by decide)] at H; exact H
   clear H
   have H := H1
   clear H1
   obtain rfl := Option.some.inj H
   go_enter Tryd.func50, Tryd.ntmps50
   go_wp2_with (first | ((with_reducible refine gate_dst (N := 2) rfl ?_); refine box_event ?hg (N := 2) ?hd (cs := #[.string a0_0, .int .i64 a0_1, .int .i64 a0_2, .int .i64 a0_3, .int .i64 a0_4, .int .i64 a0_5, .int .i64 a0_6, .int .i64 a0_7, .int .i64 a0_8, .int .i64 a0_9, .int .i64 a0_10]) (t := 40) ?hr ?_; (case hd => rfl); (case hg => rfl); (case hr => first | (go_simp; done) | (go_simp; rfl)); intro gb110 hg w18 hbox hb; have n0_ := Aside0.mk (below_step (by repeat (first | (with_reducible first | exact HB.out | apply below_alloc | apply pw_below_drewN | apply below_drew1) | exact HB.out)) hb); have n1_ := Aside0.mk (hbox); have n2_ := Aside0.mk ((by rw [hg]; exact (below_size (by repeat (first | (with_reducible first | exact HB.out | apply below_alloc | apply pw_below_drewN | apply below_drew1) | exact HB.out))) : w.heap.size ≤ gb110)); have n3_ := Aside0.mk ((by rw [hg]; exact (below_size (by repeat (first | (with_reducible first | exact HB.out | apply below_alloc | apply pw_below_drewN | apply below_drew1) | exact HB.out))) : w.heap.size ≤ gb110)); clear HB; have HB := n0_; have BK110 := n1_; have GW110 := n2_; have GE110 := n3_; clear n0_ n1_ n2_ n3_; clear hb hbox hg; have hcz19_0 : w18.cell? ⟨gb110, 0, none⟩ = some (.string a0_0) := (blk_cell BK110.out 0).trans rfl; have hcz19_1 : w18.cell? ⟨gb110, 1, none⟩ = some (.int .i64 a0_1) := (blk_cell BK110.out 1).trans rfl; have hcz19_2 : w18.cell? ⟨gb110, 2, none⟩ = some (.int .i64 a0_2) := (blk_cell BK110.out 2).trans rfl; have hcz19_3 : w18.cell? ⟨gb110, 3, none⟩ = some (.int .i64 a0_3) := (blk_cell BK110.out 3).trans rfl; have hcz19_4 : w18.cell? ⟨gb110, 4, none⟩ = some (.int .i64 a0_4) := (blk_cell BK110.out 4).trans rfl; have hcz19_5 : w18.cell? ⟨gb110, 5, none⟩ = some (.int .i64 a0_5) := (blk_cell BK110.out 5).trans rfl; have hcz19_6 : w18.cell? ⟨gb110, 6, none⟩ = some (.int .i64 a0_6) := (blk_cell BK110.out 6).trans rfl; have hcz19_7 : w18.cell? ⟨gb110, 7, none⟩ = some (.int .i64 a0_7) := (blk_cell BK110.out 7).trans rfl; have hcz19_8 : w18.cell? ⟨gb110, 8, none⟩ = some (.int .i64 a0_8) := (blk_cell BK110.out 8).trans rfl; have hcz19_9 : w18.cell? ⟨gb110, 9, none⟩ = some (.int .i64 a0_9) := (blk_cell BK110.out 9).trans rfl; have hcz19_10 : w18.cell? ⟨gb110, 10, none⟩ = some (.int .i64 a0_10) := (blk_cell BK110.out 10).trans rfl; have hfz19_0 := blk_frozen BK110.out 0; have hfz19_1 := blk_frozen BK110.out 1; have hfz19_2 := blk_frozen BK110.out 2; have hfz19_3 := blk_frozen BK110.out 3; have hfz19_4 := blk_frozen BK110.out 4; have hfz19_5 := blk_frozen BK110.out 5; have hfz19_6 := blk_frozen BK110.out 6; have hfz19_7 := blk_frozen BK110.out 7; have hfz19_8 := blk_frozen BK110.out 8; have hfz19_9 := blk_frozen BK110.out 9; have hfz19_10 := blk_frozen BK110.out 10) | ((with_reducible refine gate_callee (f := 46) rfl ?_); refine goesL_ (some 20) rfl rfl Tryd.func46 (by kernel_rfl) rfl #[.int .i64 a0_9, .int .i64 2, .int .i64 3] rfl (by (try simp only [List.map_toArray, List.map_cons, List.map_nil]); first | done | rfl | (simp only [List.length_drop, List.length_take]; rfl)) ?_; (with_reducible refine (task_in.calls a0_9 2 3 false _ A10.out).mono ?_); rintro e w' ⟨rfl, ⟨nd, rfl⟩⟩; refine ⟨_, rfl, ?_⟩))
   go_ret
   exact ⟨by first | rfl | (simp [errW_none, errW_some] <;> rfl) | (simp [*, errW_none, errW_some] <;> rfl), by repeat (first | (with_reducible first | exact HB.out | apply below_alloc | apply pw_below_drewN | apply below_drew1 | refine below_set ?_ GE110.out) | exact HB.out)⟩

/-! ### task_firm: function 51 -/
def task_firm.f (a0_0 : ByteArray) (a0_1 : Int) (a0_2 : Int) (a0_3 : Int) (a0_4 : Int) (a0_5 : Int) (a0_6 : Int) (a0_7 : Int) (a0_8 : Int) (a0_9 : Int) (a0_10 : Int) (l1 : List (S40)) : Option (Bool) := (task_in.f a0_8 1 64).bind fun t115 => (if t115 = true then ((task_in.f a0_7 1 a0_8).bind fun t116 => (some t116)) else (some false))
set_option maxHeartbeats 8000000 in
set_option maxRecDepth 100000 in
theorem task_firm.calls (a0_0 : ByteArray) (a0_1 : Int) (a0_2 : Int) (a0_3 : Int) (a0_4 : Int) (a0_5 : Int) (a0_6 : Int) (a0_7 : Int) (a0_8 : Int) (a0_9 : Int) (a0_10 : Int) (A1 : Option Addr) (c1 : Nat) (l1 : List (S40)) (r : Bool) (w : World) (hr1 : Kd.C k40 w A1 l1.length l1) (hc1 : l1.length ≤ c1) (h : task_firm.f a0_0 a0_1 a0_2 a0_3 a0_4 a0_5 a0_6 a0_7 a0_8 a0_9 a0_10 l1 = some r) :
  Calls Tryd.prog 51 #[.agg #[.string a0_0, .int .i64 a0_1, .int .i64 a0_2, .int .i64 a0_3, .int .i64 a0_4, .int .i64 a0_5, .int .i64 a0_6, .int .i64 a0_7, .int .i64 a0_8, .int .i64 a0_9, .int .i64 a0_10], .slice A1 l1.length c1] w fun e w' => e = .returned (.bool r) ∧ Below w.heap.size w w' := by
 have hu40 := Tryd.underlying40
 have HR1 := Aside0.mk hr1
 have HC1 := Aside0.mk hc1
 clear hr1 hc1
 have HB := Aside0.mk (Below.refl w.heap.size w)
 have H : ((task_in.f a0_8 1 64).bind fun t115 => (if t115 = true then ((task_in.f a0_7 1 a0_8).bind fun t116 => (some t116)) else (some false))) = some r := h
 clear h
 replace H := Option.bind_eq_some_iff.mp H
 obtain ⟨t115, A30, H⟩ := H
 replace H : (if t115 = true then ((task_in.f a0_7 1 a0_8).bind fun t116 => (some t116)) else (some false)) = some r := H
 have A3 := Aside0.mk A30
 clear A30
 by_cases c4 : t115 = true
 ·subst c4
  have H1 : ((task_in.f a0_7 1 a0_8).bind fun t116 => (some t116)) = some r := by rw [if_pos rfl] at H; exact H
  clear H
  have H := H1
  clear H1
  replace H := Option.bind_eq_some_iff.mp H
  obtain ⟨t116, A50, H⟩ := H
  replace H : (some t116) = some r := H
  have A5 := Aside0.mk A50
  clear A50
  obtain rfl := Option.some.inj H
  go_enter Tryd.func51, Tryd.ntmps51
  go_wp2_with (first | ((with_reducible refine gate_dst (N := 2) rfl ?_); refine box_event ?hg (N := 2) ?hd (cs := #[.string a0_0, .int .i64 a0_1, .int .i64 a0_2, .int .i64 a0_3, .int .i64 a0_4, .int .i64 a0_5, .int .i64 a0_6, .int .i64 a0_7, .int .i64 a0_8, .int .i64 a0_9, .int .i64 a0_10]) (t := 40) ?hr ?_; (case hd => rfl); (case hg => rfl); (case hr => first | (go_simp; done) | (go_simp; rfl)); intro gb114 hg w6 hbox hb; have n0_ := Aside0.mk (below_step (by repeat (first | (with_reducible first | exact HB.out | apply below_alloc | apply pw_below_drewN | apply below_drew1) | exact HB.out)) hb); have n1_ := Aside0.mk (hbox); have n2_ := Aside0.mk ((by rw [hg]; exact (below_size (by repeat (first | (with_reducible first | exact HB.out | apply below_alloc | apply pw_below_drewN | apply below_drew1) | exact HB.out))) : w.heap.size ≤ gb114)); have n3_ := Aside0.mk ((by rw [hg]; exact (below_size (by repeat (first | (with_reducible first | exact HB.out | apply below_alloc | apply pw_below_drewN | apply below_drew1) | exact HB.out))) : w.heap.size ≤ gb114)); clear HB; have HB := n0_; have BK114 := n1_; have GW114 := n2_; have GE114 := n3_; clear n0_ n1_ n2_ n3_; clear hb hbox hg; have hcz7_0 : w6.cell? ⟨gb114, 0, none⟩ = some (.string a0_0) := (blk_cell BK114.out 0).trans rfl; have hcz7_1 : w6.cell? ⟨gb114, 1, none⟩ = some (.int .i64 a0_1) := (blk_cell BK114.out 1).trans rfl; have hcz7_2 : w6.cell? ⟨gb114, 2, none⟩ = some (.int .i64 a0_2) := (blk_cell BK114.out 2).trans rfl; have hcz7_3 : w6.cell? ⟨gb114, 3, none⟩ = some (.int .i64 a0_3) := (blk_cell BK114.out 3).trans rfl; have hcz7_4 : w6.cell? ⟨gb114, 4, none⟩ = some (.int .i64 a0_4) := (blk_cell BK114.out 4).trans rfl; have hcz7_5 : w6.cell? ⟨gb114, 5, none⟩ = some (.int .i64 a0_5) := (blk_cell BK114.out 5).trans rfl; have hcz7_6 : w6.cell? ⟨gb114, 6, none⟩ = some (.int .i64 a0_6) := (blk_cell BK114.out 6).trans rfl; have hcz7_7 : w6.cell? ⟨gb114, 7, none⟩ = some (.int .i64 a0_7) := (blk_cell BK114.out 7).trans rfl; have hcz7_8 : w6.cell? ⟨gb114, 8, none⟩ = some (.int .i64 a0_8) := (blk_cell BK114.out 8).trans rfl; have hcz7_9 : w6.cell? ⟨gb114, 9, none⟩ = some (.int .i64 a0_9) := (blk_cell BK114.out 9).trans rfl; have hcz7_10 : w6.cell? ⟨gb114, 10, none⟩ = some (.int .i64 a0_10) := (blk_cell BK114.out 10).trans rfl; have hfz7_0 := blk_frozen BK114.out 0; have hfz7_1 := blk_frozen BK114.out 1; have hfz7_2 := blk_frozen BK114.out 2; have hfz7_3 := blk_frozen BK114.out 3; have hfz7_4 := blk_frozen BK114.out 4; have hfz7_5 := blk_frozen BK114.out 5; have hfz7_6 := blk_frozen BK114.out 6; have hfz7_7 := blk_frozen BK114.out 7; have hfz7_8 := blk_frozen BK114.out 8; have hfz7_9 := blk_frozen BK114.out 9; have hfz7_10 := blk_frozen BK114.out 10) | ((with_reducible refine gate_callee (f := 46) rfl ?_); refine goesL_ (some 7) rfl rfl Tryd.func46 (by kernel_rfl) rfl #[.int .i64 a0_8, .int .i64 1, .int .i64 64] rfl (by (try simp only [List.map_toArray, List.map_cons, List.map_nil]); first | done | rfl | (simp only [List.length_drop, List.length_take]; rfl)) ?_; (with_reducible refine (task_in.calls a0_8 1 64 true _ A3.out).mono ?_); rintro e w' ⟨rfl, ⟨nd, rfl⟩⟩; refine ⟨_, rfl, ?_⟩; (try clear A3)) | (go_at_call 46; (with_reducible refine (task_in.calls a0_7 1 a0_8 t116 _ A5.out).mono ?_); rintro e w' ⟨rfl, ⟨nd, rfl⟩⟩))
  go_ret
  exact ⟨by first | rfl | (simp [errW_none, errW_some] <;> rfl) | (simp [*, errW_none, errW_some] <;> rfl), by repeat (first | (with_reducible first | exact HB.out | apply below_alloc | apply pw_below_drewN | apply below_drew1 | refine below_set ?_ GE114.out) | exact HB.out)⟩
 ·replace c4 := Bool.eq_false_iff.mpr c4
  subst c4
  have H1 : (some false) = some r := by rw [if_neg (show ¬ (false = true) by decide)] at H; exact H
  clear H
  have H := H1
  clear H1
  obtain rfl := Option.some.inj H
  go_enter Tryd.func51, Tryd.ntmps51
  go_wp2_with (first | ((with_reducible refine gate_dst (N := 2) rfl ?_); refine box_event ?hg (N := 2) ?hd (cs := #[.string a0_0, .int .i64 a0_1, .int .i64 a0_2, .int .i64 a0_3, .int .i64 a0_4, .int .i64 a0_5, .int .i64 a0_6, .int .i64 a0_7, .int .i64 a0_8, .int .i64 a0_9, .int .i64 a0_10]) (t := 40) ?hr ?_; (case hd => rfl); (case hg => rfl); (case hr => first | (go_simp; done) | (go_simp; rfl)); intro gb114 hg w8 hbox hb; have n0_ := Aside0.mk (below_step (by repeat (first | (with_reducible first | exact HB.out | apply below_alloc | apply pw_below_drewN | apply below_drew1) | exact HB.out)) hb); have n1_ := Aside0.mk (hbox); have n2_ := Aside0.mk ((by rw [hg]; exact (below_size (by repeat (first | (with_reducible first | exact HB.out | apply below_alloc | apply pw_below_drewN | apply below_drew1) | exact HB.out))) : w.heap.size ≤ gb114)); have n3_ := Aside0.mk ((by rw [hg]; exact (below_size (by repeat (first | (with_reducible first | exact HB.out | apply below_alloc | apply pw_below_drewN | apply below_drew1) | exact HB.out))) : w.heap.size ≤ gb114)); clear HB; have HB := n0_; have BK114 := n1_; have GW114 := n2_; have GE114 := n3_; clear n0_ n1_ n2_ n3_; clear hb hbox hg; have hcz9_0 : w8.cell? ⟨gb114, 0, none⟩ = some (.string a0_0) := (blk_cell BK114.out 0).trans rfl; have hcz9_1 : w8.cell? ⟨gb114, 1, none⟩ = some (.int .i64 a0_1) := (blk_cell BK114.out 1).trans rfl; have hcz9_2 : w8.cell? ⟨gb114, 2, none⟩ = some (.int .i64 a0_2) := (blk_cell BK114.out 2).trans rfl; have hcz9_3 : w8.cell? ⟨gb114, 3, none⟩ = some (.int .i64 a0_3) := (blk_cell BK114.out 3).trans rfl; have hcz9_4 : w8.cell? ⟨gb114, 4, none⟩ = some (.int .i64 a0_4) := (blk_cell BK114.out 4).trans rfl; have hcz9_5 : w8.cell? ⟨gb114, 5, none⟩ = some (.int .i64 a0_5) := (blk_cell BK114.out 5).trans rfl; have hcz9_6 : w8.cell? ⟨gb114, 6, none⟩ = some (.int .i64 a0_6) := (blk_cell BK114.out 6).trans rfl; have hcz9_7 : w8.cell? ⟨gb114, 7, none⟩ = some (.int .i64 a0_7) := (blk_cell BK114.out 7).trans rfl; have hcz9_8 : w8.cell? ⟨gb114, 8, none⟩ = some (.int .i64 a0_8) := (blk_cell BK114.out 8).trans rfl; have hcz9_9 : w8.cell? ⟨gb114, 9, none⟩ = some (.int .i64 a0_9) := (blk_cell BK114.out 9).trans rfl; have hcz9_10 : w8.cell? ⟨gb114, 10, none⟩ = some (.int .i64 a0_10) := (blk_cell BK114.out 10).trans rfl; have hfz9_0 := blk_frozen BK114.out 0; have hfz9_1 := blk_frozen BK114.out 1; have hfz9_2 := blk_frozen BK114.out 2; have hfz9_3 := blk_frozen BK114.out 3; have hfz9_4 := blk_frozen BK114.out 4; have hfz9_5 := blk_frozen BK114.out 5; have hfz9_6 := blk_frozen BK114.out 6; have hfz9_7 := blk_frozen BK114.out 7; have hfz9_8 := blk_frozen BK114.out 8; have hfz9_9 := blk_frozen BK114.out 9; have hfz9_10 := blk_frozen BK114.out 10) | ((with_reducible refine gate_callee (f := 46) rfl ?_); refine goesL_ (some 7) rfl rfl Tryd.func46 (by kernel_rfl) rfl #[.int .i64 a0_8, .int .i64 1, .int .i64 64] rfl (by (try simp only [List.map_toArray, List.map_cons, List.map_nil]); first | done | rfl | (simp only [List.length_drop, List.length_take]; rfl)) ?_; (with_reducible refine (task_in.calls a0_8 1 64 false _ A3.out).mono ?_); rintro e w' ⟨rfl, ⟨nd, rfl⟩⟩; refine ⟨_, rfl, ?_⟩))
  go_ret
  exact ⟨by first | rfl | (simp [errW_none, errW_some] <;> rfl) | (simp [*, errW_none, errW_some] <;> rfl), by repeat (first | (with_reducible first | exact HB.out | apply below_alloc | apply pw_below_drewN | apply below_drew1 | refine below_set ?_ GE114.out) | exact HB.out)⟩

end Go.Proofs.YtddbkcfdfgehkaaDoor.Q

-- What is asked of one task: the five questions, as the program answers them.
namespace Go.Proofs.YtddbkcfdfgehkaaDoor.Q
open Go.RowKit Go.Proofs.YtddbkcfdfgehkaaDoorW.PrintWords Go.Proofs.YtddbkcfdfgehkaaDoorW.PrintLast Go.Proofs.YtddbkcfdfgehkaaDoorW.PrintMore
attribute [local go_sem] max2_int min2_int max_two min_two max_three min_three max_four min_four   -- for this text's walks alone
set_option linter.unusedVariables false
set_option linter.unusedSimpArgs false

set_option maxHeartbeats 1000000 in
set_option maxRecDepth 100000 in
theorem named_ask (t : TK) (A : Option Addr) (c : Nat) (xs : List TK) (W : World) (hxs : Kd.C k40 W A xs.length xs) (hc : xs.length ≤ c) (hlen : xs.length ≤ 1000000) :
  Calls Tryd.prog 48 #[tkV t, .slice A xs.length c] W fun e w' => e = .returned (.bool (tNamed t xs)) ∧ Below W.heap.size W w' := by
 have hb0 : Below W.heap.size W (W.alloc (.cells (tkC t) 40 (0, 0))) := below_alloc (Below.refl _ _) _
 have HB := Aside0.mk hb0
 have hbk : (W.alloc (.cells (tkC t) 40 (0, 0))).heap[W.heap.size]? = some (.cells (tkC t) 40 (0, 0)) := blk_new W _
 have HBK := Aside0.mk hbk
 have HC : ∀ w1, Below W.heap.size W w1 → w1.heap[W.heap.size]? = some (.cells (tkC t) 40 (0, 0)) → Calls Tryd.prog 54 #[.slice A xs.length c, .func (.func 55) #[] #[.pointer (some ⟨W.heap.size, 0, none⟩)]] w1 fun e w' => e = .returned (.bool (xs.any (fun x => x.f0.toList == t.f0.toList))) ∧ Below w1.heap.size w1 w' := fun w1 hb hk =>
  contains_any w1 A c xs _ (fun x => x.f0.toList == t.f0.toList) _ (fun args w => by go_simp; done) (Kd.C_below hxs hb) hc hlen (fun x W' hb' => named_same t x W.heap.size W' (blk_below hk hb'))
 have HCC := Aside0.mk HC
 clear hb0 hbk HC hxs
 obtain ⟨bn, hbn⟩ : ∃ bn, named t.f0 = bn := ⟨_, rfl⟩
 have HBN := Aside0.mk hbn
 clear hbn
 unfold tkV
 unfold tkC at *
 go_enter Tryd.func48, Tryd.ntmps48
 go_wp2_with fail
 refine (index_Named.calls t.f0 bn _ (by unfold index_Named.f; rw [HBN.out])).mono ?_
 rintro e wA ⟨rfl, hb⟩
 have HBA := Aside0.mk (below_step HB.out hb)
 have HKA := Aside0.mk (blk_below HBK.out hb)
 clear hb HB HBK
 cases bn with
 | false =>
  go_wp2_with fail
  go_ret
  exact ⟨by unfold tNamed; rw [HBN.out]; rfl, HBA.out⟩
 | true =>
  go_wp2_with fail
  refine (HCC.out wA HBA.out HKA.out).mono ?_
  rintro e wB ⟨rfl, hb⟩
  have HBB := Aside0.mk (below_step HBA.out hb)
  clear hb HBA HKA
  go_wp2_with fail
  go_ret
  exact ⟨by unfold tNamed; rw [HBN.out]; rfl, HBB.out⟩
set_option maxHeartbeats 1000000 in
set_option maxRecDepth 100000 in
theorem ranked_ask (t : TK) (A : Option Addr) (c : Nat) (xs : List TK) (W : World) (hxs : Kd.C k40 W A xs.length xs) (hc : xs.length ≤ c) (hlen : xs.length ≤ 1000000) :
  Calls Tryd.prog 52 #[tkV t, .slice A xs.length c] W fun e w' => e = .returned (.bool (tRanked t xs)) ∧ Below W.heap.size W w' := by
 have hb0 : Below W.heap.size W (W.alloc (.cells (tkC t) 40 (0, 0))) := below_alloc (Below.refl _ _) _
 have HB := Aside0.mk hb0
 have hbk : (W.alloc (.cells (tkC t) 40 (0, 0))).heap[W.heap.size]? = some (.cells (tkC t) 40 (0, 0)) := blk_new W _
 have HBK := Aside0.mk hbk
 have HC : ∀ w1, Below W.heap.size W w1 → w1.heap[W.heap.size]? = some (.cells (tkC t) 40 (0, 0)) → Calls Tryd.prog 54 #[.slice A xs.length c, .func (.func 56) #[] #[.pointer (some ⟨W.heap.size, 0, none⟩)]] w1 fun e w' => e = .returned (.bool (xs.any (fun x => x.f10 == t.f10))) ∧ Below w1.heap.size w1 w' := fun w1 hb hk =>
  contains_any w1 A c xs _ (fun x => x.f10 == t.f10) _ (fun args w => by go_simp; done) (Kd.C_below hxs hb) hc hlen (fun x W' hb' => ranked_same t x W.heap.size W' (blk_below hk hb'))
 have HCC := Aside0.mk HC
 clear hb0 hbk HC hxs
 obtain ⟨bn, hbn⟩ : ∃ bn, inB t.f10 0 255 = bn := ⟨_, rfl⟩
 have HBN := Aside0.mk hbn
 clear hbn
 unfold tkV
 unfold tkC at *
 go_enter Tryd.func52, Tryd.ntmps52
 go_wp2_with fail
 refine (task_in.calls t.f10 0 255 bn _ (by have := HBN.out; unfold inB at this; unfold task_in.f; by_cases h : t.f10 ≥ 0 <;> simp [h] at this ⊢ <;> exact this)).mono ?_
 rintro e wA ⟨rfl, hd⟩
 have hb := hd.below
 have HBA := Aside0.mk (below_step HB.out hb)
 have HKA := Aside0.mk (blk_below HBK.out hb)
 clear hb hd HB HBK
 cases bn with
 | false =>
  go_wp2_with fail
  go_ret
  exact ⟨by unfold tRanked; rw [HBN.out]; rfl, HBA.out⟩
 | true =>
  go_wp2_with fail
  refine (HCC.out wA HBA.out HKA.out).mono ?_
  rintro e wB ⟨rfl, hb⟩
  have HBB := Aside0.mk (below_step HBA.out hb)
  clear hb HBA HKA
  go_wp2_with fail
  go_ret
  exact ⟨by unfold tRanked; rw [HBN.out]; rfl, HBB.out⟩
theorem in_eq (a b c : Int) : task_in.f a b c = some (inB a b c) := by
 unfold task_in.f inB
 by_cases h : a ≥ b <;> simp [h]
theorem timed_ask (t : TK) (A : Option Addr) (c : Nat) (xs : List TK) (W : World) (hxs : Kd.C k40 W A xs.length xs) (hc : xs.length ≤ c) :
  Calls Tryd.prog 49 #[tkV t, .slice A xs.length c] W fun e w' => e = .returned (.bool (tTimed t)) ∧ Below W.heap.size W w' := by
 refine (task_timed.calls t.f0 t.f1 t.f2 t.f3 t.f4 t.f5 t.f6 t.f7 t.f8 t.f9 t.f10 A c xs (tTimed t) W hxs hc ?_).mono fun e w' ⟨he, hd⟩ => ⟨he, hd⟩
 unfold task_timed.f tTimed
 simp only [in_eq, Option.bind_some]
 cases inB t.f1 1 1048576 <;> cases inB t.f2 1 t.f1 <;> cases inB t.f3 1 t.f2 <;> simp
theorem moded_ask (t : TK) (A : Option Addr) (c : Nat) (xs : List TK) (W : World) (hxs : Kd.C k40 W A xs.length xs) (hc : xs.length ≤ c) :
  Calls Tryd.prog 50 #[tkV t, .slice A xs.length c] W fun e w' => e = .returned (.bool (tModed t)) ∧ Below W.heap.size W w' := by
 refine (task_moded.calls t.f0 t.f1 t.f2 t.f3 t.f4 t.f5 t.f6 t.f7 t.f8 t.f9 t.f10 A c xs (tModed t) W hxs hc ?_).mono fun e w' ⟨he, hd⟩ => ⟨he, hd⟩
 unfold task_moded.f tModed
 simp only [in_eq, Option.bind_some]
 by_cases h : t.f9 = 1
 ·simp only [if_pos h]
  cases inB t.f5 1 t.f3 <;> simp
 ·simp only [if_neg h]
  cases inB t.f9 2 3 <;> cases inB t.f4 1 t.f2 <;> simp
theorem firm_ask (t : TK) (A : Option Addr) (c : Nat) (xs : List TK) (W : World) (hxs : Kd.C k40 W A xs.length xs) (hc : xs.length ≤ c) :
  Calls Tryd.prog 51 #[tkV t, .slice A xs.length c] W fun e w' => e = .returned (.bool (tFirm t)) ∧ Below W.heap.size W w' := by
 refine (task_firm.calls t.f0 t.f1 t.f2 t.f3 t.f4 t.f5 t.f6 t.f7 t.f8 t.f9 t.f10 A c xs (tFirm t) W hxs hc ?_).mono fun e w' ⟨he, hd⟩ => ⟨he, hd⟩
 unfold task_firm.f tFirm
 simp only [in_eq, Option.bind_some]
 cases inB t.f8 1 64 <;> simp
end Go.Proofs.YtddbkcfdfgehkaaDoor.Q

-- slices.Index and slices.Contains of texts, as plain functions (no program in sight).
namespace Go.Proofs.YtddbkcfdfgehkaaDoor.Q
open Go.RowKit Go.Proofs.YtddbkcfdfgehkaaDoorW.PrintWords Go.Proofs.YtddbkcfdfgehkaaDoorW.PrintLast Go.Proofs.YtddbkcfdfgehkaaDoorW.PrintMore
attribute [local go_sem] max2_int min2_int max_two min_two max_three min_three max_four min_four   -- for this text's walks alone
set_option linter.unusedVariables false
set_option linter.unusedSimpArgs false

theorem wrap_ok1 {x : Int} (h0 : -1000000000000000000 ≤ x) (h1 : x ≤ 1000000000000000000) : wrap64 x = x := by unfold wrap64; omega
def idxGo : List ByteArray → ByteArray → Int → Int
 | [], _, _ => -1
 | y :: r, x, i => if x.toList = y.toList then i else idxGo r x (i + 1)
theorem idx_loop (l : List ByteArray) (x : ByteArray) (hl : l.length ≤ 1000000) : ∀ (n i k : Nat), i + n = l.length → n < k → slices_Index_string_string.l0 k l x (l.length : Int) (i : Int) = some (idxGo (l.drop i) x (i : Int))
 | 0, i, k, h, hk => by
  obtain ⟨k, rfl⟩ : ∃ j, k = j + 1 := ⟨k - 1, by omega⟩
  rw [slices_Index_string_string.l0, if_neg (by omega), List.drop_of_length_le (by omega)]
  rfl
 | n + 1, i, k, h, hk => by
  obtain ⟨k, rfl⟩ : ∃ j, k = j + 1 := ⟨k - 1, by omega⟩
  have hi : i < l.length := by omega
  have hg : rdOf ByteArray.empty l (i : Int) = l[i] := by simp [rdOf, List.getD_eq_getElem?_getD, List.getElem?_eq_getElem hi]
  rw [slices_Index_string_string.l0, if_pos (by omega), if_pos (by omega), if_pos (by omega), hg, List.drop_eq_getElem_cons hi, idxGo]
  by_cases hx : x.toList = l[i].toList
  ·rw [if_pos hx, if_pos hx]
  ·rw [if_neg hx, if_neg hx, show wrap64 ((i : Int) + 1) = ((i + 1 : Nat) : Int) by rw [wrap_ok1 (by omega) (by omega)]; omega, idx_loop l x hl n (i + 1) k (by omega) (by omega)]
   rfl
theorem idx_eq (l : List ByteArray) (x : ByteArray) (hl : l.length ≤ 1000000) : slices_Index_string_string.f (l.length + 1) l x = some (idxGo l x 0) := by
 unfold slices_Index_string_string.f
 exact idx_loop l x hl l.length 0 _ (by omega) (by omega)
theorem idxGo_any (x : ByteArray) : ∀ (l : List ByteArray) (i : Int), 0 ≤ i → decide (idxGo l x i ≥ 0) = l.any (fun y => y.toList == x.toList)
 | [], _, _ => rfl
 | y :: r, i, h => by
  rw [idxGo, List.any_cons]
  by_cases hx : x.toList = y.toList
  ·rw [if_pos hx, decide_eq_true h, show (y.toList == x.toList) = true from beq_iff_eq.2 hx.symm]; rfl
  ·rw [if_neg hx, idxGo_any x r (i + 1) (by omega), show (y.toList == x.toList) = false from beq_eq_false_iff_ne.2 (fun e => hx e.symm)]; rfl
theorem contains_eq (l : List ByteArray) (x : ByteArray) (hl : l.length ≤ 1000000) : slices_Contains_string_string.f (l.length + 1) l x = some (l.any (fun y => y.toList == x.toList)) := by
 unfold slices_Contains_string_string.f
 rw [idx_eq l x hl, Option.bind_some, idxGo_any x l 0 (Int.le_refl _)]
end Go.Proofs.YtddbkcfdfgehkaaDoor.Q

-- The parser in memory, and its small functions: walked by hand.
namespace Go.Proofs.YtddbkcfdfgehkaaDoor.Q
open Go.RowKit Go.Proofs.YtddbkcfdfgehkaaDoorW.PrintWords Go.Proofs.YtddbkcfdfgehkaaDoorW.PrintLast Go.Proofs.YtddbkcfdfgehkaaDoorW.PrintMore
attribute [local go_sem] max2_int min2_int max_two min_two max_three min_three max_four min_four   -- for this text's walks alone
set_option linter.unusedVariables false
set_option linter.unusedSimpArgs false

def tokC (t : TOK) : Array Value := #[.int .i64 t.f0, .string t.f1, .int .i64 t.f2, .int .i64 t.f3, .int .i64 t.f4]
def prsC (A : Option Addr) (c : Nat) (vts vhs : Value) (p : PS) : Array Value := #[.slice A p.l.length c, .int .i64 p.e, .int .i64 p.ln, .int .i64 p.cl, .int .i64 p.b, vts, .int .i64 p.bt.f0, .string p.bt.f1, .int .i64 p.bt.f2, .int .i64 p.bt.f3, .int .i64 p.bt.f4, vhs]
def PrsX (w0 : World) (ok : Nat → Prop) (W : World) (g : Nat) (A : Option Addr) (c : Nat) (vts vhs : Value) (p : PS) : Prop :=
 W.heap[g]? = some (.cells (prsC A c vts vhs p) 48 (0, 0)) ∧ w0.heap.size ≤ g ∧ p.l.length ≤ c ∧ Kd.C k46 w0 A p.l.length p.l ∧ Kd.R k40 40 W w0.heap.size ok vts p.ts ∧ Kd.R k46 46 W w0.heap.size ok vhs p.hs ∧ Below w0.heap.size w0 W
theorem tok_f1 (a : Int) (b : ByteArray) (c d e : Int) (w : World) : (Instr.field 46 (.agg #[.int .i64 a, .string b, .int .i64 c, .int .i64 d, .int .i64 e]) 1).run Tryd.prog w = .ok (.string b) w := by kernel_rfl
theorem tok_f2 (a : Int) (b : ByteArray) (c d e : Int) (w : World) : (Instr.field 46 (.agg #[.int .i64 a, .string b, .int .i64 c, .int .i64 d, .int .i64 e]) 2).run Tryd.prog w = .ok (.int .i64 c) w := by kernel_rfl
theorem tok_f3 (a : Int) (b : ByteArray) (c d e : Int) (w : World) : (Instr.field 46 (.agg #[.int .i64 a, .string b, .int .i64 c, .int .i64 d, .int .i64 e]) 3).run Tryd.prog w = .ok (.int .i64 d) w := by kernel_rfl
theorem tok_f4 (a : Int) (b : ByteArray) (c d e : Int) (w : World) : (Instr.field 46 (.agg #[.int .i64 a, .string b, .int .i64 c, .int .i64 d, .int .i64 e]) 4).run Tryd.prog w = .ok (.int .i64 e) w := by kernel_rfl
attribute [local go_sem] tok_f1 tok_f2 tok_f3 tok_f4
section
variable {w0 W W' : World} {ok : Nat → Prop} {g : Nat} {A : Option Addr} {c : Nat} {vts vhs : Value} {p : PS}
theorem addr_zero (a : Addr) : a.add 0 = a := by unfold Addr.add; split <;> simp_all
theorem PrsX.below (h : PrsX w0 ok W g A c vts vhs p) (hb : Below W.heap.size W W') : PrsX w0 ok W' g A c vts vhs p :=
 ⟨blk_below h.1 hb, h.2.1, h.2.2.1, h.2.2.2.1, Kd.R_below h.2.2.2.2.1 hb, Kd.R_below h.2.2.2.2.2.1 hb, below_step h.2.2.2.2.2.2 hb⟩
theorem PrsX.out_below (h : PrsX w0 ok W g A c vts vhs p) : Below w0.heap.size w0 W := h.2.2.2.2.2.2
theorem PrsX.put (h : PrsX w0 ok W g A c vts vhs p) (j : Nat) (u : Value) {A' : Option Addr} {c' : Nat} {p' : PS} (hc : (prsC A c vts vhs p).setIfInBounds j u = prsC A' c' vts vhs p') (hl : p'.l.length ≤ c') (hC : Kd.C k46 w0 A' p'.l.length p'.l) (hts : p'.ts = p.ts) (hhs : p'.hs = p.hs) :
  PrsX w0 ok (W.setCell ⟨g, j, none⟩ u) g A' c' vts vhs p' :=
 ⟨by rw [← hc]; exact blk_put h.1 j u rfl, h.2.1, hl, hC, by rw [hts]; exact Kd.R_set h.2.2.2.2.1 h.1 (by decide) j u, by rw [hhs]; exact Kd.R_set h.2.2.2.2.2.1 h.1 (by decide) j u, h.2.2.2.2.2.2.setCell h.2.1 u⟩
theorem PrsX.mono {ok' : Nat → Prop} (h : PrsX w0 ok W g A c vts vhs p) (hs : ∀ k, ok k → ok' k) : PrsX w0 ok' W g A c vts vhs p :=
 ⟨h.1, h.2.1, h.2.2.1, h.2.2.2.1, Kd.R_mono h.2.2.2.2.1 hs, Kd.R_mono h.2.2.2.2.2.1 hs, h.2.2.2.2.2.2⟩
theorem PrsX.bound (h : PrsX w0 ok W g A c vts vhs p) : PrsX w0 (fun k => ok k ∧ k < W.heap.size) W g A c vts vhs p :=
 ⟨h.1, h.2.1, h.2.2.1, h.2.2.2.1, Kd.R_mono (Kd.R_bound h.2.2.2.2.1) (fun k hk => ⟨hk.1, hk.2.2.1⟩), Kd.R_mono (Kd.R_bound h.2.2.2.2.2.1) (fun k hk => ⟨hk.1, hk.2.2.1⟩), h.2.2.2.2.2.2⟩
theorem PrsX.far (h : PrsX w0 ok W g A c vts vhs p) {q : Nat} (hq : q ≠ g) (hok : ∀ k, ok k → k ≠ q) (hw : w0.heap.size ≤ q) (j : Nat) (u : Value) : PrsX w0 ok (W.setCell ⟨q, j, none⟩ u) g A c vts vhs p :=
 ⟨(Below.heap_setCell W ⟨q, j, none⟩ u g (Ne.symm hq)).trans h.1, h.2.1, h.2.2.1, h.2.2.2.1, Kd.R_far h.2.2.2.2.1 hok u, Kd.R_far h.2.2.2.2.2.1 hok u, h.2.2.2.2.2.2.setCell hw u⟩
theorem infoTok : ∃ i, Tryd.prog.info? 46 = some i ∧ i.size = 5 := by
 obtain ⟨i, h1, _, h3, _⟩ := info_parts (show (Tryd.prog.info? 46).map (fun i => (i.zero, i.size, i.bytes)) = some (some (.agg #[.int .i64 0, .string ⟨#[]⟩, .int .i64 0, .int .i64 0, .int .i64 0]), 5, 48) by kernel_rfl)
 exact ⟨i, h1, h3⟩
set_option maxHeartbeats 1000000 in
set_option maxRecDepth 100000 in
theorem now_ask (h : PrsX w0 ok W g A c vts vhs p) (hl : p.l ≠ []) :
  Calls Tryd.prog 19 #[.pointer (some ⟨g, 0, none⟩)] W fun e W' => e = .returned (.agg (tokC p.now)) ∧ Below W.heap.size W W' := by
 have hpos : 0 < p.l.length := List.length_pos_iff.2 hl
 have x0 : W.cell? ⟨g, 0, none⟩ = some (.slice A p.l.length c) := blk_cell h.1 0
 obtain ⟨ad, e, y0, y1, y2, y3, y4⟩ := at_T46 (Kd.C_below h.2.2.2.1 h.out_below) 0 (by omega) (by omega)
 cases e
 have HN : Aside0 (rd_T46 p.l 0 = p.now) := ⟨by unfold PS.now rd_T46; cases hp : p.l with | nil => exact absurd hp hl | cons a r => rfl⟩
 rw [HN.out] at y0 y1 y2 y3 y4
 have HB := Aside0.mk (Below.refl W.heap.size W)
 obtain ⟨t, ht⟩ : ∃ t, p.now = t := ⟨_, rfl⟩
 rw [ht] at y0 y1 y2 y3 y4 ⊢
 obtain ⟨n, hn⟩ : ∃ n, p.l.length = n := ⟨_, rfl⟩
 rw [hn] at x0 hpos
 have p0 : (0 : Int) < (n : Int) := by omega
 simp only [show (0 : Int).toNat * 5 = 0 from rfl, addr_zero] at y0 y1 y2 y3 y4
 have x0' := fun o => pw_cell_below (below_alloc (Below.refl _ W) o) x0
 have y0' := fun o => pw_cell_below (below_alloc (Below.refl _ W) o) y0
 have y1' := fun o => pw_cell_below (below_alloc (Below.refl _ W) o) y1
 have y2' := fun o => pw_cell_below (below_alloc (Below.refl _ W) o) y2
 have y3' := fun o => pw_cell_below (below_alloc (Below.refl _ W) o) y3
 have y4' := fun o => pw_cell_below (below_alloc (Below.refl _ W) o) y4
 clear h hl HN ht hn x0 y0 y1 y2 y3 y4
 go_enter Tryd.func19, Tryd.ntmps19
 go_wp2
 refine bodyPost_ret (results_cell_row rfl _ _ W.heap.size 46 (tokC t) (0, 0) _ rfl (blk_new W _) Tryd.underlying46 rfl (by kernel_rfl)) rfl ?_
 exact ⟨rfl, by repeat (first | exact HB.out | apply below_drew | apply below_alloc)⟩
set_option maxHeartbeats 1000000 in
set_option maxRecDepth 100000 in
theorem fail_ask (h : PrsX w0 ok W g A c vts vhs p) (hl : p.l ≠ []) :
  Calls Tryd.prog 45 #[.pointer (some ⟨g, 0, none⟩)] W fun e W' => e = .returned (.tuple #[]) ∧ PrsX w0 ok W' g A c vts vhs p.fail ∧ Kept W W' (fun k => k = g) := by
 have x1 : W.cell? ⟨g, 1, none⟩ = some (.int .i64 p.e) := blk_cell h.1 1
 have HX := Aside0.mk h
 have HL := Aside0.mk hl
 clear h hl
 by_cases he : p.e = 0
 ·have heq : (p.e == 0) = true := beq_iff_eq.2 he
  have HE := Aside0.mk he
  clear he
  go_enter Tryd.func45, Tryd.ntmps45
  go_wp2_with fail
  refine (now_ask HX.out HL.out).mono ?_
  rintro e wA ⟨rfl, hb⟩
  have HXA := Aside0.mk (HX.out.below hb)
  have HBA := Aside0.mk hb
  unfold tokC
  clear hb x1
  go_wp2_with fail
  refine (now_ask HXA.out HL.out).mono ?_
  rintro e wB ⟨rfl, hb⟩
  have HXB := Aside0.mk (HXA.out.below hb)
  have HBB := Aside0.mk (below_step HBA.out hb)
  have x1 : wB.cell? ⟨g, 1, none⟩ = some (.int .i64 p.e) := blk_cell HXB.out.1 1
  have x2 : wB.cell? ⟨g, 2, none⟩ = some (.int .i64 p.ln) := blk_cell HXB.out.1 2
  have x3 : wB.cell? ⟨g, 3, none⟩ = some (.int .i64 p.cl) := blk_cell HXB.out.1 3
  have f1 := blk_frozen HXB.out.1 1
  have f2 := blk_frozen HXB.out.1 2
  have f3 := blk_frozen HXB.out.1 3
  unfold tokC
  clear hb HXA HBA
  go_wp2_with fail
  first | go_end0 | ((try simp only [Exit.inBlock, Exit.then]); refine bodyPost_ret (results_none rfl _ _ _) rfl ?_)
  have h1 := HXB.out.put 1 (.int .i64 5) (A' := A) (c' := c) (p' := { p with e := 5 }) rfl HXB.out.2.2.1 HXB.out.2.2.2.1 rfl rfl
  have h2 := h1.put 2 (.int .i64 p.now.f3) (A' := A) (c' := c) (p' := { p with e := 5, ln := p.now.f3 }) rfl HXB.out.2.2.1 HXB.out.2.2.2.1 rfl rfl
  have h3 := h2.put 3 (.int .i64 p.now.f4) (A' := A) (c' := c) (p' := { p with e := 5, ln := p.now.f3, cl := p.now.f4 }) rfl HXB.out.2.2.1 HXB.out.2.2.2.1 rfl rfl
  refine ⟨rfl, ?_, (((Kept.of_below HBB.out (fun k => k = g)).setCell (p := ⟨g, 1, none⟩) (.inl rfl) _).setCell (p := ⟨g, 2, none⟩) (.inl rfl) _).setCell (p := ⟨g, 3, none⟩) (.inl rfl) _⟩
  unfold PS.fail
  rw [if_pos HE.out]
  exact h3
 ·have heq : (p.e == 0) = false := beq_eq_false_iff_ne.2 he
  have HE := Aside0.mk he
  clear he
  go_enter Tryd.func45, Tryd.ntmps45
  go_wp2_with fail
  first | go_end0 | ((try simp only [Exit.inBlock, Exit.then]); refine bodyPost_ret (results_none rfl _ _ _) rfl ?_)
  exact ⟨rfl, by unfold PS.fail; rw [if_neg HE.out]; exact HX.out, Kept.refl _ _⟩
set_option maxHeartbeats 2000000 in
set_option maxRecDepth 100000 in
theorem take_ask (h : PrsX w0 ok W g A c vts vhs p) (hl : p.l ≠ []) (kind : Int) (At : Option Addr) (ct : Nat) (texts : List ByteArray) (ht : Kd.C Kd.string W At texts.length texts) (hct : texts.length ≤ ct) (htl : texts.length ≤ 1000000) :
  Calls Tryd.prog 31 #[.pointer (some ⟨g, 0, none⟩), .int .i64 kind, .slice At texts.length ct] W fun e W' => e = .returned (.agg (tokC (p.take kind texts).2)) ∧ (∃ A' c', PrsX w0 ok W' g A' c' vts vhs (p.take kind texts).1) ∧ Kept W W' (fun k => k = g) := by
 obtain ⟨W1, hW1⟩ : ∃ W1, W1 = W.alloc (.cells (tokC z46) 46 (0, 0)) := ⟨_, rfl⟩
 have hb1 : Below W.heap.size W W1 := by rw [hW1]; exact below_alloc (Below.refl _ _) _
 have HX := Aside0.mk (h.bound.below hb1)
 have HWS : Aside0 (w0.heap.size ≤ W.heap.size) := ⟨h.out_below.size⟩
 have HB1 := Aside0.mk hb1
 have HR1 : Aside0 (W1.heap[W.heap.size]? = some (.cells (tokC z46) 46 (0, 0))) := ⟨by rw [hW1]; exact blk_new W _⟩
 have HT := Aside0.mk (Kd.C_below ht hb1)
 have HL := Aside0.mk hl
 have HGL : Aside0 (g < W.heap.size) := ⟨blk_lt h.1⟩
 have HW1 := Aside0.mk hW1
 clear h hl ht hb1 hW1
 go_enter Tryd.func31, Tryd.ntmps31
 go_wp2_with fail
 have hnow := now_ask HX.out HL.out
 rw [HW1.out] at hnow
 refine hnow.mono ?_
 rintro e wA ⟨rfl, hb⟩
 have hb2 : Below W1.heap.size W1 wA := by rw [HW1.out]; exact hb
 obtain ⟨gt, hgt⟩ : ∃ gt, wA.heap.size = gt := ⟨_, rfl⟩
 obtain ⟨wB, hwB⟩ : ∃ wB, wB = wA.alloc (.cells (tokC p.now) 46 (0, 0)) := ⟨_, rfl⟩
 have hb3 : Below W1.heap.size W1 wB := by rw [hwB]; exact below_alloc hb2 _
 have HXB := Aside0.mk (HX.out.below hb3)
 have HRB := Aside0.mk (blk_below HR1.out hb3)
 have HTB := Aside0.mk (Kd.C_below HT.out hb3)
 have HTT : Aside0 (wB.heap[gt]? = some (.cells (tokC p.now) 46 (0, 0))) := ⟨by rw [hwB, ← hgt]; exact blk_new wA _⟩
 have HBB := Aside0.mk (below_step HB1.out hb3)
 have HWB := Aside0.mk hwB
 have HGT : Aside0 (gt ≠ W.heap.size ∧ gt ≠ g) := ⟨by have h1 := hb2.size; have h2 : W1.heap.size = W.heap.size + 1 := (by rw [HW1.out]; simp); have h3 := HGL.out; omega⟩
 clear hnow hb hb2 hb3 hwB HX HR1 HT HB1
 unfold tokC
 unfold tokC at HWB
 have x1 : wB.cell? ⟨g, 1, none⟩ = some (.int .i64 p.e) := blk_cell HXB.out.1 1
 have t0 : wB.cell? ⟨gt, 0, none⟩ = some (.int .i64 p.now.f0) := blk_cell HTT.out 0
 have t1 : wB.cell? ⟨gt, 1, none⟩ = some (.string p.now.f1) := blk_cell HTT.out 1
 rw [HWB.out] at x1 t0 t1
 by_cases he : p.e = 0
 ·rw [he] at x1
  have HE := Aside0.mk he
  clear he
  by_cases hk : p.now.f0 = kind
  ·subst hk
   by_cases hte : texts.length = 0
   ·have HTK : Aside0 (p.fits p.now.f0 texts = true) := ⟨by unfold PS.fits; rw [HE.out, List.eq_nil_of_length_eq_zero hte]; simp⟩
    have x0 : wB.cell? ⟨g, 0, none⟩ = some (.slice A p.l.length c) := blk_cell HXB.out.1 0
    have g0 := blk_frozen HXB.out.1 0
    have hpos : 1 ≤ p.l.length := List.length_pos_iff.2 HL.out
    obtain ⟨iT, hiT, hsT⟩ := infoTok
    have hcut := cut_from (P := Tryd.prog) 41 46 .i64 Tryd.underlying41 hiT 5 hsT A p.l.length c (1 : Int) (by omega) (by omega)
    simp only [show (1 : Int).toNat = 1 from rfl, Nat.one_mul] at hcut
    obtain ⟨A4, hA4⟩ : ∃ A4, (if c = 1 then A else A.map (·.add 5)) = A4 := ⟨_, rfl⟩
    rw [hA4] at hcut
    have HCT : Aside0 (Kd.C k46 w0 A4 p.l.tail.length p.l.tail) := ⟨by
     have h := Kd.C_drop (c := c) HXB.out.2.2.2.1 hpos HXB.out.2.2.1
     rw [List.drop_one] at h
     have e1 : (if c = 1 then A else A.map (·.add (1 * (k46).sz))) = A4 := hA4
     rwa [e1] at h⟩
    have r0 : wB.cell? ⟨W.heap.size, 0, none⟩ = some (.int .i64 0) := blk_cell HRB.out 0
    have r1 : wB.cell? ⟨W.heap.size, 1, none⟩ = some (.string ⟨#[]⟩) := blk_cell HRB.out 1
    have r2 : wB.cell? ⟨W.heap.size, 2, none⟩ = some (.int .i64 0) := blk_cell HRB.out 2
    have r3 : wB.cell? ⟨W.heap.size, 3, none⟩ = some (.int .i64 0) := blk_cell HRB.out 3
    have r4 : wB.cell? ⟨W.heap.size, 4, none⟩ = some (.int .i64 0) := blk_cell HRB.out 4
    have f0 := blk_frozen HRB.out 0
    have f1 := blk_frozen HRB.out 1
    have f2 := blk_frozen HRB.out 2
    have f3 := blk_frozen HRB.out 3
    have f4 := blk_frozen HRB.out 4
    have t2 : wB.cell? ⟨gt, 2, none⟩ = some (.int .i64 p.now.f2) := blk_cell HTT.out 2
    have t3 : wB.cell? ⟨gt, 3, none⟩ = some (.int .i64 p.now.f3) := blk_cell HTT.out 3
    have t4 : wB.cell? ⟨gt, 4, none⟩ = some (.int .i64 p.now.f4) := blk_cell HTT.out 4
    have n1 : gt ≠ g := HGT.out.2
    have n2 : W.heap.size ≠ g := by have := HGL.out; omega
    clear hA4 hpos
    rw [HWB.out] at x0 g0 r0 r1 r2 r3 r4 f0 f1 f2 f3 f4 t2 t3 t4
    go_wp2_with fail
    rw [← HWB.out]
    refine bodyPost_ret (results_cell_row rfl _ _ W.heap.size 46 (tokC p.now) (0, 0) _ rfl (blk_put (blk_put (blk_put (blk_put (blk_put ((Below.heap_setCell wB ⟨g, 0, none⟩ _ W.heap.size n2).trans HRB.out) 0 _ rfl) 1 _ rfl) 2 _ rfl) 3 _ rfl) 4 _ rfl) Tryd.underlying46 rfl (by kernel_rfl)) rfl ?_
    have hok : ∀ k, (ok k ∧ k < W.heap.size) → k ≠ W.heap.size := fun k hk => by have := hk.2; omega
    have hX1 := HXB.out.put 0 (.slice A4 (p.l.length - 1) (c - 1)) (A' := A4) (c' := c - 1) (p' := { p with l := p.l.tail }) (by unfold prsC; simp) (by have := HXB.out.2.2.1; simp; omega) HCT.out rfl rfl
    refine ⟨by unfold PS.take; rw [if_pos HTK.out], ⟨A4, c - 1, ?_⟩, ?_⟩
    ·unfold PS.take; rw [if_pos HTK.out]
     exact (((((hX1.far n2 hok HWS.out 0 _).far n2 hok HWS.out 1 _).far n2 hok HWS.out 2 _).far n2 hok HWS.out 3 _).far n2 hok HWS.out 4 _).mono (fun k hk => hk.1)
    ·exact (((((((Kept.of_below HBB.out (fun k => k = g)).setCell (p := ⟨g, 0, none⟩) (.inl rfl) _).setCell (p := ⟨W.heap.size, 0, none⟩) (.inr (Nat.le_refl _)) _).setCell (p := ⟨W.heap.size, 1, none⟩) (.inr (Nat.le_refl _)) _).setCell (p := ⟨W.heap.size, 2, none⟩) (.inr (Nat.le_refl _)) _).setCell (p := ⟨W.heap.size, 3, none⟩) (.inr (Nat.le_refl _)) _).setCell (p := ⟨W.heap.size, 4, none⟩) (.inr (Nat.le_refl _)) _)
   ·have hlp : 0 < texts.length := Nat.pos_of_ne_zero hte
    have HHT := Aside0.mk hte
    have hle : decide ((texts.length : Int) > 0) = true := by simp; omega
    obtain ⟨bc, hbc⟩ : ∃ bc, texts.any (fun y => y.toList == p.now.f1.toList) = bc := ⟨_, rfl⟩
    have HBC := Aside0.mk hbc
    have htb := HTB.out
    rw [HWB.out] at htb
    have HTC := Aside0.mk htb
    clear hbc htb hte
    go_wp2_with fail
    refine (slices_Contains_string_string.calls (texts.length + 1) At ct texts p.now.f1 bc _ HTC.out hct (by rw [contains_eq texts p.now.f1 htl, HBC.out])).mono ?_
    rintro e wC ⟨rfl, hd⟩
    have hb := hd.below
    rw [← HWB.out] at hb
    have HXC := Aside0.mk (HXB.out.below hb)
    have HRC := Aside0.mk (blk_below HRB.out hb)
    have HTTC := Aside0.mk (blk_below HTT.out hb)
    have HBBC := Aside0.mk (below_step HBB.out hb)
    clear hd hb HXB HRB HTT HBB x1 t0 t1 HTB HTC
    have HXB := HXC
    have HRB := HRC
    have HTT := HTTC
    have HBB := HBBC
    clear HXC HRC HTTC HBBC
    cases bc with
    | true =>
     have HTK : Aside0 (p.fits p.now.f0 texts = true) := ⟨by unfold PS.fits; rw [HE.out, HBC.out]; simp⟩
     have x0 : wC.cell? ⟨g, 0, none⟩ = some (.slice A p.l.length c) := blk_cell HXB.out.1 0
     have g0 := blk_frozen HXB.out.1 0
     have hpos : 1 ≤ p.l.length := List.length_pos_iff.2 HL.out
     obtain ⟨iT, hiT, hsT⟩ := infoTok
     have hcut := cut_from (P := Tryd.prog) 41 46 .i64 Tryd.underlying41 hiT 5 hsT A p.l.length c (1 : Int) (by omega) (by omega)
     simp only [show (1 : Int).toNat = 1 from rfl, Nat.one_mul] at hcut
     obtain ⟨A4, hA4⟩ : ∃ A4, (if c = 1 then A else A.map (·.add 5)) = A4 := ⟨_, rfl⟩
     rw [hA4] at hcut
     have HCT : Aside0 (Kd.C k46 w0 A4 p.l.tail.length p.l.tail) := ⟨by
      have h := Kd.C_drop (c := c) HXB.out.2.2.2.1 hpos HXB.out.2.2.1
      rw [List.drop_one] at h
      have e1 : (if c = 1 then A else A.map (·.add (1 * (k46).sz))) = A4 := hA4
      rwa [e1] at h⟩
     have r0 : wC.cell? ⟨W.heap.size, 0, none⟩ = some (.int .i64 0) := blk_cell HRB.out 0
     have r1 : wC.cell? ⟨W.heap.size, 1, none⟩ = some (.string ⟨#[]⟩) := blk_cell HRB.out 1
     have r2 : wC.cell? ⟨W.heap.size, 2, none⟩ = some (.int .i64 0) := blk_cell HRB.out 2
     have r3 : wC.cell? ⟨W.heap.size, 3, none⟩ = some (.int .i64 0) := blk_cell HRB.out 3
     have r4 : wC.cell? ⟨W.heap.size, 4, none⟩ = some (.int .i64 0) := blk_cell HRB.out 4
     have f0 := blk_frozen HRB.out 0
     have f1 := blk_frozen HRB.out 1
     have f2 := blk_frozen HRB.out 2
     have f3 := blk_frozen HRB.out 3
     have f4 := blk_frozen HRB.out 4
     have t0 : wC.cell? ⟨gt, 0, none⟩ = some (.int .i64 p.now.f0) := blk_cell HTT.out 0
     have t1 : wC.cell? ⟨gt, 1, none⟩ = some (.string p.now.f1) := blk_cell HTT.out 1
     have t2 : wC.cell? ⟨gt, 2, none⟩ = some (.int .i64 p.now.f2) := blk_cell HTT.out 2
     have t3 : wC.cell? ⟨gt, 3, none⟩ = some (.int .i64 p.now.f3) := blk_cell HTT.out 3
     have t4 : wC.cell? ⟨gt, 4, none⟩ = some (.int .i64 p.now.f4) := blk_cell HTT.out 4
     have n1 : gt ≠ g := HGT.out.2
     have n2 : W.heap.size ≠ g := by have := HGL.out; omega
     clear hA4 hpos
     go_wp2_with fail
     refine bodyPost_ret (results_cell_row rfl _ _ W.heap.size 46 (tokC p.now) (0, 0) _ rfl (blk_put (blk_put (blk_put (blk_put (blk_put ((Below.heap_setCell wC ⟨g, 0, none⟩ _ W.heap.size n2).trans HRB.out) 0 _ rfl) 1 _ rfl) 2 _ rfl) 3 _ rfl) 4 _ rfl) Tryd.underlying46 rfl (by kernel_rfl)) rfl ?_
     have hok : ∀ k, (ok k ∧ k < W.heap.size) → k ≠ W.heap.size := fun k hk => by have := hk.2; omega
     have hX1 := HXB.out.put 0 (.slice A4 (p.l.length - 1) (c - 1)) (A' := A4) (c' := c - 1) (p' := { p with l := p.l.tail }) (by unfold prsC; simp) (by have := HXB.out.2.2.1; simp; omega) HCT.out rfl rfl
     refine ⟨by unfold PS.take; rw [if_pos HTK.out], ⟨A4, c - 1, ?_⟩, ?_⟩
     ·unfold PS.take; rw [if_pos HTK.out]
      exact (((((hX1.far n2 hok HWS.out 0 _).far n2 hok HWS.out 1 _).far n2 hok HWS.out 2 _).far n2 hok HWS.out 3 _).far n2 hok HWS.out 4 _).mono (fun k hk => hk.1)
     ·exact (((((((Kept.of_below HBB.out (fun k => k = g)).setCell (p := ⟨g, 0, none⟩) (.inl rfl) _).setCell (p := ⟨W.heap.size, 0, none⟩) (.inr (Nat.le_refl _)) _).setCell (p := ⟨W.heap.size, 1, none⟩) (.inr (Nat.le_refl _)) _).setCell (p := ⟨W.heap.size, 2, none⟩) (.inr (Nat.le_refl _)) _).setCell (p := ⟨W.heap.size, 3, none⟩) (.inr (Nat.le_refl _)) _).setCell (p := ⟨W.heap.size, 4, none⟩) (.inr (Nat.le_refl _)) _)
    | false =>
     have HTK : Aside0 (p.fits p.now.f0 texts = false) := ⟨by unfold PS.fits; rw [HE.out, HBC.out]; cases ht0 : texts with | nil => exact absurd (by rw [ht0]; rfl) HHT.out | cons a r => simp⟩
     go_wp2_with fail
     refine (fail_ask HXB.out HL.out).mono ?_
     rintro e wF ⟨rfl, hX, hk⟩
     have HXF := Aside0.mk hX
     have HKF : Aside0 (Kept W wF (fun k => k = g)) := ⟨⟨Nat.le_trans HBB.out.size hk.1, fun i hi hn => (hk.2 i (Nat.lt_of_lt_of_le hi HBB.out.size) hn).trans ((Kept.of_below HBB.out (fun k => k = g)).2 i hi hn)⟩⟩
     have HRF := Aside0.mk (blk_kept HRB.out hk (by have := HGL.out; omega))
     have r0 : wF.cell? ⟨W.heap.size, 0, none⟩ = some (.int .i64 0) := blk_cell HRF.out 0
     have r1 : wF.cell? ⟨W.heap.size, 1, none⟩ = some (.string ⟨#[]⟩) := blk_cell HRF.out 1
     have r2 : wF.cell? ⟨W.heap.size, 2, none⟩ = some (.int .i64 0) := blk_cell HRF.out 2
     have r3 : wF.cell? ⟨W.heap.size, 3, none⟩ = some (.int .i64 0) := blk_cell HRF.out 3
     have r4 : wF.cell? ⟨W.heap.size, 4, none⟩ = some (.int .i64 0) := blk_cell HRF.out 4
     have f0 := blk_frozen HRF.out 0
     have f1 := blk_frozen HRF.out 1
     have f2 := blk_frozen HRF.out 2
     have f3 := blk_frozen HRF.out 3
     have f4 := blk_frozen HRF.out 4
     clear hX hk
     go_wp2_with fail
     refine bodyPost_ret (results_cell_row rfl _ _ W.heap.size 46 (tokC z46) (0, 0) _ rfl (blk_put (blk_put (blk_put (blk_put (blk_put HRF.out 0 _ rfl) 1 _ rfl) 2 _ rfl) 3 _ rfl) 4 _ rfl) Tryd.underlying46 rfl (by kernel_rfl)) rfl ?_
     have hqg : W.heap.size ≠ g := by have := HGL.out; omega
     have hok : ∀ k, (ok k ∧ k < W.heap.size) → k ≠ W.heap.size := fun k hk => by have := hk.2; omega
     refine ⟨by unfold PS.take; rw [if_neg (by rw [HTK.out]; decide)], ⟨A, c, ?_⟩, ?_⟩
     ·unfold PS.take; rw [if_neg (by rw [HTK.out]; decide)]
      exact (((((HXF.out.far hqg hok HWS.out 0 _).far hqg hok HWS.out 1 _).far hqg hok HWS.out 2 _).far hqg hok HWS.out 3 _).far hqg hok HWS.out 4 _).mono (fun k hk => hk.1)
     ·exact ((((HKF.out.setCell (p := ⟨W.heap.size, 0, none⟩) (.inr (Nat.le_refl _)) _).setCell (p := ⟨W.heap.size, 1, none⟩) (.inr (Nat.le_refl _)) _).setCell (p := ⟨W.heap.size, 2, none⟩) (.inr (Nat.le_refl _)) _).setCell (p := ⟨W.heap.size, 3, none⟩) (.inr (Nat.le_refl _)) _).setCell (p := ⟨W.heap.size, 4, none⟩) (.inr (Nat.le_refl _)) _
  ·have hnk : (p.now.f0 == kind) = false := beq_eq_false_iff_ne.2 hk
   have HTK : Aside0 (p.fits kind texts = false) := ⟨by unfold PS.fits; rw [hnk]; simp⟩
   go_wp2_with fail
   rw [← HWB.out]
   refine (fail_ask HXB.out HL.out).mono ?_
   rintro e wF ⟨rfl, hX, hk⟩
   have HXF := Aside0.mk hX
   have HKF : Aside0 (Kept W wF (fun k => k = g)) := ⟨⟨Nat.le_trans HBB.out.size hk.1, fun i hi hn => (hk.2 i (Nat.lt_of_lt_of_le hi HBB.out.size) hn).trans ((Kept.of_below HBB.out (fun k => k = g)).2 i hi hn)⟩⟩
   have HRF := Aside0.mk (blk_kept HRB.out hk (by have := HGL.out; omega))
   have r0 : wF.cell? ⟨W.heap.size, 0, none⟩ = some (.int .i64 0) := blk_cell HRF.out 0
   have r1 : wF.cell? ⟨W.heap.size, 1, none⟩ = some (.string ⟨#[]⟩) := blk_cell HRF.out 1
   have r2 : wF.cell? ⟨W.heap.size, 2, none⟩ = some (.int .i64 0) := blk_cell HRF.out 2
   have r3 : wF.cell? ⟨W.heap.size, 3, none⟩ = some (.int .i64 0) := blk_cell HRF.out 3
   have r4 : wF.cell? ⟨W.heap.size, 4, none⟩ = some (.int .i64 0) := blk_cell HRF.out 4
   have f0 := blk_frozen HRF.out 0
   have f1 := blk_frozen HRF.out 1
   have f2 := blk_frozen HRF.out 2
   have f3 := blk_frozen HRF.out 3
   have f4 := blk_frozen HRF.out 4
   clear hX hk
   go_wp2_with fail
   refine bodyPost_ret (results_cell_row rfl _ _ W.heap.size 46 (tokC z46) (0, 0) _ rfl (blk_put (blk_put (blk_put (blk_put (blk_put HRF.out 0 _ rfl) 1 _ rfl) 2 _ rfl) 3 _ rfl) 4 _ rfl) Tryd.underlying46 rfl (by kernel_rfl)) rfl ?_
   have hqg : W.heap.size ≠ g := by have := HGL.out; omega
   have hok : ∀ k, (ok k ∧ k < W.heap.size) → k ≠ W.heap.size := fun k hk => by have := hk.2; omega
   refine ⟨by unfold PS.take; rw [if_neg (by rw [HTK.out]; decide)], ⟨A, c, ?_⟩, ?_⟩
   ·unfold PS.take; rw [if_neg (by rw [HTK.out]; decide)]
    exact (((((HXF.out.far hqg hok HWS.out 0 _).far hqg hok HWS.out 1 _).far hqg hok HWS.out 2 _).far hqg hok HWS.out 3 _).far hqg hok HWS.out 4 _).mono (fun k hk => hk.1)
   ·exact ((((HKF.out.setCell (p := ⟨W.heap.size, 0, none⟩) (.inr (Nat.le_refl _)) _).setCell (p := ⟨W.heap.size, 1, none⟩) (.inr (Nat.le_refl _)) _).setCell (p := ⟨W.heap.size, 2, none⟩) (.inr (Nat.le_refl _)) _).setCell (p := ⟨W.heap.size, 3, none⟩) (.inr (Nat.le_refl _)) _).setCell (p := ⟨W.heap.size, 4, none⟩) (.inr (Nat.le_refl _)) _
 ·have hne : (p.e == 0) = false := beq_eq_false_iff_ne.2 he
  have HTK : Aside0 (p.fits kind texts = false) := ⟨by unfold PS.fits; rw [hne]; simp⟩
  go_wp2_with fail
  rw [← HWB.out]
  refine (fail_ask HXB.out HL.out).mono ?_
  rintro e wF ⟨rfl, hX, hk⟩
  have HXF := Aside0.mk hX
  have HKF : Aside0 (Kept W wF (fun k => k = g)) := ⟨⟨Nat.le_trans HBB.out.size hk.1, fun i hi hn => (hk.2 i (Nat.lt_of_lt_of_le hi HBB.out.size) hn).trans ((Kept.of_below HBB.out (fun k => k = g)).2 i hi hn)⟩⟩
  have HRF := Aside0.mk (blk_kept HRB.out hk (by have := HGL.out; omega))
  have r0 : wF.cell? ⟨W.heap.size, 0, none⟩ = some (.int .i64 0) := blk_cell HRF.out 0
  have r1 : wF.cell? ⟨W.heap.size, 1, none⟩ = some (.string ⟨#[]⟩) := blk_cell HRF.out 1
  have r2 : wF.cell? ⟨W.heap.size, 2, none⟩ = some (.int .i64 0) := blk_cell HRF.out 2
  have r3 : wF.cell? ⟨W.heap.size, 3, none⟩ = some (.int .i64 0) := blk_cell HRF.out 3
  have r4 : wF.cell? ⟨W.heap.size, 4, none⟩ = some (.int .i64 0) := blk_cell HRF.out 4
  have f0 := blk_frozen HRF.out 0
  have f1 := blk_frozen HRF.out 1
  have f2 := blk_frozen HRF.out 2
  have f3 := blk_frozen HRF.out 3
  have f4 := blk_frozen HRF.out 4
  clear hX hk
  go_wp2_with fail
  refine bodyPost_ret (results_cell_row rfl _ _ W.heap.size 46 (tokC z46) (0, 0) _ rfl (blk_put (blk_put (blk_put (blk_put (blk_put HRF.out 0 _ rfl) 1 _ rfl) 2 _ rfl) 3 _ rfl) 4 _ rfl) Tryd.underlying46 rfl (by kernel_rfl)) rfl ?_
  have hqg : W.heap.size ≠ g := by have := HGL.out; omega
  have hok : ∀ k, (ok k ∧ k < W.heap.size) → k ≠ W.heap.size := fun k hk => by have := hk.2; omega
  refine ⟨by unfold PS.take; rw [if_neg (by rw [HTK.out]; decide)], ⟨A, c, ?_⟩, ?_⟩
  ·unfold PS.take; rw [if_neg (by rw [HTK.out]; decide)]
   exact (((((HXF.out.far hqg hok HWS.out 0 _).far hqg hok HWS.out 1 _).far hqg hok HWS.out 2 _).far hqg hok HWS.out 3 _).far hqg hok HWS.out 4 _).mono (fun k hk => hk.1)
  ·exact ((((HKF.out.setCell (p := ⟨W.heap.size, 0, none⟩) (.inr (Nat.le_refl _)) _).setCell (p := ⟨W.heap.size, 1, none⟩) (.inr (Nat.le_refl _)) _).setCell (p := ⟨W.heap.size, 2, none⟩) (.inr (Nat.le_refl _)) _).setCell (p := ⟨W.heap.size, 3, none⟩) (.inr (Nat.le_refl _)) _).setCell (p := ⟨W.heap.size, 4, none⟩) (.inr (Nat.le_refl _)) _
end
end Go.Proofs.YtddbkcfdfgehkaaDoor.Q
