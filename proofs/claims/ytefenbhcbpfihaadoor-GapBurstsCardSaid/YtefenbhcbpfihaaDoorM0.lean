-- Texts of this claim, put together: Q0, Hnamed, LregL, Ltask, HtaskA, HtaskO, LfixO, LfixR, Lright, Lrow, Q1, Q12, LfixF, Q14, Q16, LfixE, HfixA, HfixB, Q2, HtaskB.
import Derived.Test.YtefenbhcbpfihaaDoorProg
import Derived.Below
import Derived.Deep.Draws
import Derived.Deep.AppendLies
import Derived.Maps.AppendAt
import Derived.OwnWalk
import Derived.Laws.BytesArg
import Derived.Laws.MakeOwn
import Derived.Laws.OwnMore
import Derived.Deep.OwnRows
import Derived.Tactics
import Derived.Lib.ConvBytes
import Derived.Laws.Slices
import Derived.WalkKit
import Derived.KernelRfl
import Derived.RowKit3
import Derived.Deep.LoopGhost
import Derived.Deep.QuietTactic
import Derived.BigQuiet
import Derived.WideLaws
import Derived.Deep.DeepCutAuto
import Derived.Deep.CutBlock
import Derived.Deep.RegionHeld3
import Derived.Laws.Rows
import Derived.Lib.AppendStr
import Derived.ArgAppend
import Derived.Laws.IdiomCopy
import Derived.OrdersHeld
import Derived.Laws.BitsLemmas
import Derived.RowKit
import Derived.Test.YtefenbhcbpfihaaDoorWWords
import Derived.Test.YtefenbhcbpfihaaDoorWLast
import Derived.Test.YtefenbhcbpfihaaDoorWTab
import Derived.Test.YtefenbhcbpfihaaDoorWFour
import Derived.Test.YtefenbhcbpfihaaDoorWQPut
import Derived.Test.YtefenbhcbpfihaaDoorWApart
import Derived.Test.YtefenbhcbpfihaaDoorWArr
import Derived.Test.YtefenbhcbpfihaaDoorWZeros
import Derived.Test.YtefenbhcbpfihaaDoorWFoot
import Derived.Test.YtefenbhcbpfihaaDoorWKept
import Derived.Test.YtefenbhcbpfihaaDoorWShare
import Derived.Test.YtefenbhcbpfihaaDoorWN
import Derived.Test.YtefenbhcbpfihaaDoorWFootNe
import Derived.Test.YtefenbhcbpfihaaDoorWAt
import Derived.Test.YtefenbhcbpfihaaDoorWEqStruct
import Derived.Test.YtefenbhcbpfihaaDoorWRepsOne
import Derived.Test.YtefenbhcbpfihaaDoorWInv
import Derived.Test.YtefenbhcbpfihaaDoorWInvWords
import Derived.Test.YtefenbhcbpfihaaDoorWGuard
import Derived.Test.YtefenbhcbpfihaaDoorWNEv
import Derived.Test.YtefenbhcbpfihaaDoorWMore
import Derived.Test.YtefenbhcbpfihaaDoorShelf
import Derived.WalkSpells
import Derived.Deep.RegionHeld
import Derived.OpenShut
import Derived.IntWalk
import Derived.Deep.Slices
import Derived.ChangeArms
import Derived.WideShapes
-- Written for this claim by the session's own driver (wip/qprint.py) over the kit's printer, out of the translation. Not trusted: Lean checks it.
namespace Go.Proofs.YtefenbhcbpfihaaDoor.Q
open Go.RowKit Go.Proofs.YtefenbhcbpfihaaDoorW.PrintWords Go.Proofs.YtefenbhcbpfihaaDoorW.PrintLast Go.Proofs.YtefenbhcbpfihaaDoorW.PrintMore
attribute [local go_sem] max2_int min2_int max_two min_two max_three min_three max_four min_four   -- for this text's walks alone
set_option linter.unusedVariables false
set_option linter.unusedSimpArgs false

def errW : Option Int → Value
 | none => .nilIface
 | some c => .iface 0 (.int .i64 c)
theorem errW_none : errW none = .nilIface := rfl
theorem errW_some (c : Int) : errW (some c) = .iface 0 (.int .i64 c) := rfl

theorem info3 : (Tryd.prog.info? 3).map (fun i => (i.zero, i.size, i.bytes)) = some (some (.int .i64 0), 1, 8) := by kernel_rfl
theorem info39 : (Tryd.prog.info? 39).map (fun i => (i.zero, i.size, i.bytes)) = some (some (.agg #[(.string ⟨#[]⟩), (.int .i64 0), (.int .i64 0), (.int .i64 0), (.int .i64 0), (.int .i64 0), (.int .i64 0), (.int .i64 0), (.int .i64 0), (.int .i64 0), (.int .i64 0)]), 11, 96) := by kernel_rfl
-- the values' own types
/-! #### struct type 39 -/
structure S39 where
 f0 : ByteArray
 f1 : Int
 f2 : Int
 f3 : Int
 f4 : Int
 f5 : Int
 f6 : Int
 f7 : Int
 f8 : Int
 f9 : Int
 f10 : Int
def z39 : S39 := ⟨(⟨#[]⟩ : ByteArray), (0 : Int), (0 : Int), (0 : Int), (0 : Int), (0 : Int), (0 : Int), (0 : Int), (0 : Int), (0 : Int), (0 : Int)⟩
def k39 : Kd S39 := Kd.iso (Kd.pair Kd.string (Kd.pair (Kd.int .i64) (Kd.pair (Kd.int .i64) (Kd.pair (Kd.int .i64) (Kd.pair (Kd.int .i64) (Kd.pair (Kd.int .i64) (Kd.pair (Kd.int .i64) (Kd.pair (Kd.int .i64) (Kd.pair (Kd.int .i64) (Kd.pair (Kd.int .i64) (Kd.int .i64))))))))))) (fun x : S39 => (x.f0, x.f1, x.f2, x.f3, x.f4, x.f5, x.f6, x.f7, x.f8, x.f9, x.f10))
theorem k39_open {w : World} {x : S39} {cs : List Value} (h : k39.K w x cs) : cs = [.string x.f0, .int .i64 x.f1, .int .i64 x.f2, .int .i64 x.f3, .int .i64 x.f4, .int .i64 x.f5, .int .i64 x.f6, .int .i64 x.f7, .int .i64 x.f8, .int .i64 x.f9, .int .i64 x.f10] := by
 obtain ⟨_, _, rfl, rfl, ⟨_, _, rfl, rfl, ⟨_, _, rfl, rfl, ⟨_, _, rfl, rfl, ⟨_, _, rfl, rfl, ⟨_, _, rfl, rfl, ⟨_, _, rfl, rfl, ⟨_, _, rfl, rfl, ⟨_, _, rfl, rfl, ⟨_, _, rfl, rfl, rfl⟩⟩⟩⟩⟩⟩⟩⟩⟩⟩ := h
 exact rfl
theorem k39_openM {w : World} {base : Nat} {ok : Nat → Prop} {x : S39} {cs : List Value} (h : k39.M w base ok x cs) : cs = [.string x.f0, .int .i64 x.f1, .int .i64 x.f2, .int .i64 x.f3, .int .i64 x.f4, .int .i64 x.f5, .int .i64 x.f6, .int .i64 x.f7, .int .i64 x.f8, .int .i64 x.f9, .int .i64 x.f10] := by
 obtain ⟨_, _, rfl, rfl, ⟨_, _, rfl, rfl, ⟨_, _, rfl, rfl, ⟨_, _, rfl, rfl, ⟨_, _, rfl, rfl, ⟨_, _, rfl, rfl, ⟨_, _, rfl, rfl, ⟨_, _, rfl, rfl, ⟨_, _, rfl, rfl, ⟨_, _, rfl, rfl, rfl⟩⟩⟩⟩⟩⟩⟩⟩⟩⟩ := h
 exact rfl
theorem k39_mk (w : World) (x : S39)  : k39.K w x [.string x.f0, .int .i64 x.f1, .int .i64 x.f2, .int .i64 x.f3, .int .i64 x.f4, .int .i64 x.f5, .int .i64 x.f6, .int .i64 x.f7, .int .i64 x.f8, .int .i64 x.f9, .int .i64 x.f10] := ⟨[.string x.f0], [.int .i64 x.f1, .int .i64 x.f2, .int .i64 x.f3, .int .i64 x.f4, .int .i64 x.f5, .int .i64 x.f6, .int .i64 x.f7, .int .i64 x.f8, .int .i64 x.f9, .int .i64 x.f10], rfl, rfl, ⟨[.int .i64 x.f1], [.int .i64 x.f2, .int .i64 x.f3, .int .i64 x.f4, .int .i64 x.f5, .int .i64 x.f6, .int .i64 x.f7, .int .i64 x.f8, .int .i64 x.f9, .int .i64 x.f10], rfl, rfl, ⟨[.int .i64 x.f2], [.int .i64 x.f3, .int .i64 x.f4, .int .i64 x.f5, .int .i64 x.f6, .int .i64 x.f7, .int .i64 x.f8, .int .i64 x.f9, .int .i64 x.f10], rfl, rfl, ⟨[.int .i64 x.f3], [.int .i64 x.f4, .int .i64 x.f5, .int .i64 x.f6, .int .i64 x.f7, .int .i64 x.f8, .int .i64 x.f9, .int .i64 x.f10], rfl, rfl, ⟨[.int .i64 x.f4], [.int .i64 x.f5, .int .i64 x.f6, .int .i64 x.f7, .int .i64 x.f8, .int .i64 x.f9, .int .i64 x.f10], rfl, rfl, ⟨[.int .i64 x.f5], [.int .i64 x.f6, .int .i64 x.f7, .int .i64 x.f8, .int .i64 x.f9, .int .i64 x.f10], rfl, rfl, ⟨[.int .i64 x.f6], [.int .i64 x.f7, .int .i64 x.f8, .int .i64 x.f9, .int .i64 x.f10], rfl, rfl, ⟨[.int .i64 x.f7], [.int .i64 x.f8, .int .i64 x.f9, .int .i64 x.f10], rfl, rfl, ⟨[.int .i64 x.f8], [.int .i64 x.f9, .int .i64 x.f10], rfl, rfl, ⟨[.int .i64 x.f9], [.int .i64 x.f10], rfl, rfl, rfl⟩⟩⟩⟩⟩⟩⟩⟩⟩⟩
theorem k39_mkM (w : World) (base : Nat) (ok : Nat → Prop) (x : S39)  : k39.M w base ok x [.string x.f0, .int .i64 x.f1, .int .i64 x.f2, .int .i64 x.f3, .int .i64 x.f4, .int .i64 x.f5, .int .i64 x.f6, .int .i64 x.f7, .int .i64 x.f8, .int .i64 x.f9, .int .i64 x.f10] := ⟨[.string x.f0], [.int .i64 x.f1, .int .i64 x.f2, .int .i64 x.f3, .int .i64 x.f4, .int .i64 x.f5, .int .i64 x.f6, .int .i64 x.f7, .int .i64 x.f8, .int .i64 x.f9, .int .i64 x.f10], rfl, rfl, ⟨[.int .i64 x.f1], [.int .i64 x.f2, .int .i64 x.f3, .int .i64 x.f4, .int .i64 x.f5, .int .i64 x.f6, .int .i64 x.f7, .int .i64 x.f8, .int .i64 x.f9, .int .i64 x.f10], rfl, rfl, ⟨[.int .i64 x.f2], [.int .i64 x.f3, .int .i64 x.f4, .int .i64 x.f5, .int .i64 x.f6, .int .i64 x.f7, .int .i64 x.f8, .int .i64 x.f9, .int .i64 x.f10], rfl, rfl, ⟨[.int .i64 x.f3], [.int .i64 x.f4, .int .i64 x.f5, .int .i64 x.f6, .int .i64 x.f7, .int .i64 x.f8, .int .i64 x.f9, .int .i64 x.f10], rfl, rfl, ⟨[.int .i64 x.f4], [.int .i64 x.f5, .int .i64 x.f6, .int .i64 x.f7, .int .i64 x.f8, .int .i64 x.f9, .int .i64 x.f10], rfl, rfl, ⟨[.int .i64 x.f5], [.int .i64 x.f6, .int .i64 x.f7, .int .i64 x.f8, .int .i64 x.f9, .int .i64 x.f10], rfl, rfl, ⟨[.int .i64 x.f6], [.int .i64 x.f7, .int .i64 x.f8, .int .i64 x.f9, .int .i64 x.f10], rfl, rfl, ⟨[.int .i64 x.f7], [.int .i64 x.f8, .int .i64 x.f9, .int .i64 x.f10], rfl, rfl, ⟨[.int .i64 x.f8], [.int .i64 x.f9, .int .i64 x.f10], rfl, rfl, ⟨[.int .i64 x.f9], [.int .i64 x.f10], rfl, rfl, rfl⟩⟩⟩⟩⟩⟩⟩⟩⟩⟩
def rd_T39 (xs : List S39) (i : Int) : S39 := xs.getD i.toNat z39
theorem at_T39 {w : World} {A : Option Addr} {n : Nat} {xs : List S39} (h : Kd.C k39 w A n xs) (i : Int) (h0 : 0 ≤ i) (h1 : i < n) : ∃ ad , A = some ad ∧ w.cell? (ad.add (i.toNat * 11)) = some (.string (rd_T39 xs i).f0) ∧ w.cell? ⟨(ad.add (i.toNat * 11)).block, (ad.add (i.toNat * 11)).off + 1, none⟩ = some (.int .i64 (rd_T39 xs i).f1) ∧ w.cell? ⟨(ad.add (i.toNat * 11)).block, (ad.add (i.toNat * 11)).off + 2, none⟩ = some (.int .i64 (rd_T39 xs i).f2) ∧ w.cell? ⟨(ad.add (i.toNat * 11)).block, (ad.add (i.toNat * 11)).off + 3, none⟩ = some (.int .i64 (rd_T39 xs i).f3) ∧ w.cell? ⟨(ad.add (i.toNat * 11)).block, (ad.add (i.toNat * 11)).off + 4, none⟩ = some (.int .i64 (rd_T39 xs i).f4) ∧ w.cell? ⟨(ad.add (i.toNat * 11)).block, (ad.add (i.toNat * 11)).off + 5, none⟩ = some (.int .i64 (rd_T39 xs i).f5) ∧ w.cell? ⟨(ad.add (i.toNat * 11)).block, (ad.add (i.toNat * 11)).off + 6, none⟩ = some (.int .i64 (rd_T39 xs i).f6) ∧ w.cell? ⟨(ad.add (i.toNat * 11)).block, (ad.add (i.toNat * 11)).off + 7, none⟩ = some (.int .i64 (rd_T39 xs i).f7) ∧ w.cell? ⟨(ad.add (i.toNat * 11)).block, (ad.add (i.toNat * 11)).off + 8, none⟩ = some (.int .i64 (rd_T39 xs i).f8) ∧ w.cell? ⟨(ad.add (i.toNat * 11)).block, (ad.add (i.toNat * 11)).off + 9, none⟩ = some (.int .i64 (rd_T39 xs i).f9) ∧ w.cell? ⟨(ad.add (i.toNat * 11)).block, (ad.add (i.toNat * 11)).off + 10, none⟩ = some (.int .i64 (rd_T39 xs i).f10) := by
 obtain ⟨ad, c, e, _, hK, hc0⟩ := Kd.C_get h z39 i h0 h1
 have hc : ∀ j u, c[j]? = some u → w.cell? (ad.add (i.toNat * 11 + j)) = some u := hc0
 obtain rfl := k39_open hK
 exact ⟨ad, e, hc 0 _ rfl, by rw [← add_field _ _ 1 (by omega)]; exact hc 1 _ rfl, by rw [← add_field _ _ 2 (by omega)]; exact hc 2 _ rfl, by rw [← add_field _ _ 3 (by omega)]; exact hc 3 _ rfl, by rw [← add_field _ _ 4 (by omega)]; exact hc 4 _ rfl, by rw [← add_field _ _ 5 (by omega)]; exact hc 5 _ rfl, by rw [← add_field _ _ 6 (by omega)]; exact hc 6 _ rfl, by rw [← add_field _ _ 7 (by omega)]; exact hc 7 _ rfl, by rw [← add_field _ _ 8 (by omega)]; exact hc 8 _ rfl, by rw [← add_field _ _ 9 (by omega)]; exact hc 9 _ rfl, by rw [← add_field _ _ 10 (by omega)]; exact hc 10 _ rfl⟩

end Go.Proofs.YtefenbhcbpfihaaDoor.Q

-- Whether a text is a name, as index.Named tells it: proved by hand, in the printer's form.
namespace Go.Proofs.YtefenbhcbpfihaaDoor.Q
open Go.RowKit Go.Proofs.YtefenbhcbpfihaaDoorW.PrintWords Go.Proofs.YtefenbhcbpfihaaDoorW.PrintLast Go.Proofs.YtefenbhcbpfihaaDoorW.PrintMore
attribute [local go_sem] max2_int min2_int max_two min_two max_three min_three max_four min_four   -- for this text's walks alone
set_option linter.unusedVariables false
set_option linter.unusedSimpArgs false

def nLetters : List UInt8 := [97, 98, 99, 100, 101, 102, 103, 104, 105, 106, 107, 108, 109, 110, 111, 112, 113, 114, 115, 116, 117, 118, 119, 120, 121, 122]
def nOthers : List UInt8 := nLetters ++ [48, 49, 50, 51, 52, 53, 54, 55, 56, 57, 95]
def named (a : ByteArray) : Bool := decide (1 ≤ a.size) && decide (a.size ≤ 12) && (a.data.toList.take 1).all (nLetters.contains ·) && a.data.toList.all (nOthers.contains ·)
def index_Named.f (a0 : ByteArray) : Option Bool := some (named a0)
theorem dw_nil_iff {α : Type} (p : α → Bool) : ∀ l : List α, l.dropWhile p = [] ↔ ∀ x ∈ l, p x = true
 | [] => by simp
 | a :: r => by
  rw [List.dropWhile_cons]
  by_cases h : p a = true
  ·rw [if_pos h, dw_nil_iff p r]; simp [h]
  ·rw [if_neg h]; simp [h]
theorem trimS_nil_iff (l cs : List UInt8) : (Lib.trimS l cs = []) ↔ l.all (cs.contains ·) = true := by
 unfold Lib.trimS Lib.trimLeftS Lib.trimRightS
 constructor
 ·intro h
  have h1 : ∀ x ∈ ((l.reverse.dropWhile (cs.contains ·)).reverse), cs.contains x = true := by
   have := (dw_nil_iff _ _).1 h
   exact this
  have h2 : l.reverse.dropWhile (cs.contains ·) = [] := by
   cases hd : l.reverse.dropWhile (cs.contains ·) with
   | nil => rfl
   | cons x r =>
    have hx : cs.contains x = true := h1 x (by rw [hd]; simp)
    have := List.head_dropWhile_not (p := (cs.contains ·)) (l := l.reverse) (by rw [hd]; simp)
    simp only [hd, List.head_cons] at this
    rw [hx] at this
    exact absurd this (by simp)
  have h3 := (dw_nil_iff _ _).1 h2
  rw [List.all_eq_true]
  intro x hx
  exact h3 x (by simpa using hx)
 ·intro h
  rw [List.all_eq_true] at h
  have h2 : l.reverse.dropWhile (cs.contains ·) = [] := (dw_nil_iff _ _).2 (fun x hx => h x (by simpa using hx))
  rw [h2]; rfl
theorem empty_mk (l : List UInt8) : (⟨l.toArray⟩ : ByteArray).toList.isEmpty = l.isEmpty := by rw [Lib.toList_data]
theorem trim_ask (s cs : ByteArray) (w : World) (hs : s.size ≤ 9223372036854775807) (hcs : cs.size < 4294967281) (hascii : ∀ (j : Nat) b, cs.data.toList[j]? = some b → b.toNat < 128) (b : Bool) (hb : s.data.toList.all (cs.data.toList.contains ·) = b) :
  Calls Tryd.prog 69 #[.string s, .string cs] w fun e w' => ∃ t : ByteArray, e = .returned (.string t) ∧ t.toList.isEmpty = b ∧ Below w.heap.size w w' := by
 refine (Any.strings_Trim_laid Tryd.shTrim (by kernel_rfl) s cs w hs hcs hascii).mono fun e w' ⟨he, hB⟩ => ⟨_, he, ?_, hB⟩
 rw [empty_mk]
 cases b with
 | true => rw [(trimS_nil_iff _ _).2 hb]; rfl
 | false =>
  cases hl : Lib.trimS s.data.toList cs.data.toList with
  | nil => rw [(trimS_nil_iff _ _).1 hl] at hb; exact absurd hb (by simp)
  | cons _ _ => rfl
theorem extract_one (s : ByteArray) : (s.extract 0 1).data.toList = s.data.toList.take 1 := by
 rw [ByteArray.data_extract]; simp
set_option maxHeartbeats 1000000 in
set_option maxRecDepth 100000 in
theorem index_Named.calls (l0 : ByteArray) (r1 : Bool) (w : World) (h : index_Named.f l0 = some r1) :
  Calls Tryd.prog 60 #[.string l0] w fun e w' => e = .returned (.bool r1) ∧ Below w.heap.size w w' := by
 have hr := Option.some.inj h
 have HB := Aside0.mk (Below.refl w.heap.size w)
 clear h
 unfold named at hr
 by_cases h1 : 1 ≤ l0.size
 ·by_cases h2 : l0.size ≤ 12
  ·rw [decide_eq_true h1, decide_eq_true h2] at hr
   rw [Bool.and_self, Bool.true_and] at hr
   have d1 : decide ((l0.size : Int) ≥ 1) = true := by simp; omega
   have d2 : decide ((l0.size : Int) ≤ 12) = true := by simp; omega
   have q1 : (1 : Int) ≤ (l0.size : Int) := by omega
   have H2 := Aside0.mk h2
   have he1 : (l0.extract 0 1).size ≤ 12 := by rw [ByteArray.size_extract]; omega
   have HE1 := Aside0.mk he1
   clear h1 h2 he1
   obtain ⟨b1, hb1⟩ : ∃ b1, (l0.data.toList.take 1).all (nLetters.contains ·) = b1 := ⟨_, rfl⟩
   obtain ⟨b2, hb2⟩ : ∃ b2, l0.data.toList.all (nOthers.contains ·) = b2 := ⟨_, rfl⟩
   rw [hb1, hb2] at hr
   rw [← extract_one] at hb1
   have T1 := Aside0.mk hb1
   have T2 := Aside0.mk hb2
   have HR := Aside0.mk hr
   clear hb1 hb2 hr
   cases b1 with
   | true =>
    go_enter Tryd.func60, Tryd.ntmps60
    go_wp2_with (first
     | (refine (trim_ask (l0.extract 0 1) _ _ (by have := HE1.out; omega) (by decide) (ascii_of_all (by decide)) _ T1.out).mono ?_; rintro e wA ⟨t1, rfl, ht1, hb⟩; have HB1 := Aside0.mk (below_step HB.out hb); clear HB hb T1; have HB := HB1; clear HB1)
     | (refine (trim_ask l0 _ _ (by have := H2.out; omega) (by decide) (ascii_of_all (by decide)) _ T2.out).mono ?_; rintro e wA ⟨t2, rfl, ht2, hb⟩; have HB1 := Aside0.mk (below_step HB.out hb); clear HB hb T2; have HB := HB1; clear HB1))
    go_ret
    exact ⟨by rw [← HR.out]; simp [ht2], HB.out⟩
   | false =>
    go_enter Tryd.func60, Tryd.ntmps60
    go_wp2_with (first
     | (refine (trim_ask (l0.extract 0 1) _ _ (by have := HE1.out; omega) (by decide) (ascii_of_all (by decide)) _ T1.out).mono ?_; rintro e wA ⟨t1, rfl, ht1, hb⟩; have HB1 := Aside0.mk (below_step HB.out hb); clear HB hb T1; have HB := HB1; clear HB1))
    go_ret
    exact ⟨by rw [← HR.out]; simp, HB.out⟩
  ·rw [decide_eq_false h2] at hr
   rw [Bool.and_false, Bool.false_and, Bool.false_and] at hr
   have d1 : decide ((l0.size : Int) ≥ 1) = true := by simp; omega
   have d2 : decide ((l0.size : Int) ≤ 12) = false := by simp; omega
   have HR := Aside0.mk hr
   clear h1 h2 hr
   go_enter Tryd.func60, Tryd.ntmps60
   go_wp2
   go_ret
   exact ⟨by rw [← HR.out]; rfl, HB.out⟩
 ·rw [decide_eq_false h1] at hr
  rw [Bool.false_and, Bool.false_and, Bool.false_and] at hr
  have d1 : decide ((l0.size : Int) ≥ 1) = false := by simp; omega
  have HR := Aside0.mk hr
  clear h1 hr
  go_enter Tryd.func60, Tryd.ntmps60
  go_wp2
  go_ret
  exact ⟨by rw [← HR.out]; rfl, HB.out⟩
end Go.Proofs.YtefenbhcbpfihaaDoor.Q

-- A region that asks the tape: loads are taken first, though stores into what they read come at its end (they wait for the loads).
namespace Go.Proofs.YtefenbhcbpfihaaDoor.Q
open Go.RowKit Go.Proofs.YtefenbhcbpfihaaDoorW.PrintWords Go.Proofs.YtefenbhcbpfihaaDoorW.PrintLast Go.Proofs.YtefenbhcbpfihaaDoorW.PrintMore
attribute [local go_sem] max2_int min2_int max_two min_two max_three min_three max_four min_four   -- for this text's walks alone
set_option linter.unusedVariables false
set_option linter.unusedSimpArgs false

section
variable {P : Program} {md : Region.Mode} {ops : Array Oper} {Q : Exit → Act → World → Prop} {S : World → Prop} {sts : List Nat}
/-- None of the stores has come up. -/
def noneUp (sts : List Nat) (listed : Array Bool) : Prop := ∀ k, k ∈ sts → listed.getD k true = false
/-- Whatever order is picked from here on; S holds as long as none of the stores has come up. -/
def wpL (P : Program) (md : Region.Mode) (ops : Array Oper) (Q : Exit → Act → World → Prop) (S : World → Prop) (sts : List Nat) : Nat → Array Bool → Act → World → Prop
 | 0, listed, a, w => Region.ready md ops listed = [] ∧ Q .normal a w
 | fuel + 1, listed, a, w => (Region.ready md ops listed = [] → Q .normal a w) ∧
  ∀ i ∈ Region.ready md ops listed, wpOp P ops Q i (fun a' w' => (noneUp sts (listed.setIfInBounds i true) → S w') ∧ wpL P md ops Q S sts fuel (listed.setIfInBounds i true) a' w') a w
theorem wpL_any : ∀ (fuel : Nat) (listed : Array Bool) (a : Act) (w : World), wpL P md ops Q S sts fuel listed a w → wpAny P md ops Q fuel listed a w
 | 0, _, _, _, h => h
 | fuel + 1, _, _, _, h => ⟨h.1, fun i hi => wpOp_mono (fun a' w' h' => wpL_any fuel _ a' w' h'.2) (h.2 i hi)⟩
theorem noneUp_set {listed : Array Bool} {j : Nat} (h : noneUp sts listed) (hj : j ∉ sts) : noneUp sts (listed.setIfInBounds j true) := fun k hk => by
 have hne : j ≠ k := fun e => hj (e ▸ hk)
 have := h k hk
 rw [← this]
 simp [Array.getD_eq_getD_getElem?, hne]
theorem wpL_first {i : Nat} {oi : Oper} {v : Value} (hi : ops[i]? = some oi) (hsel : ∀ (j : Nat) (o : Oper) cs b, ops[j]? = some o → o.op ≠ .select cs b)
  (hQ : ∀ c a w, Q (.panic c) (a.put oi.dst v) w → Q (.panic c) a w) (hist : i ∉ sts)
  (hst : ∀ k, k ∈ sts → ∀ ok, ops[k]? = some ok → ∃ e ∈ ok.after, Region.binds md e = true ∧ e.on = i) :
  ∀ (fuel : Nat) (listed : Array Bool) (a : Act) (w : World),
   (∀ j oj, ops[j]? = some oj → j ≠ i → listed.getD j true = false → (∀ e ∈ oj.after, Region.binds md e = true → e.on ≠ i) → oi.apart ops oj = true) →
   i ∈ Region.ready md ops listed → YieldsIf P ops S oi v a → S w → noneUp sts listed →
   wpL P md ops Q S sts fuel (listed.setIfInBounds i true) (a.put oi.dst v) w → wpL P md ops Q S sts (fuel + 1) listed a w := by
 intro fuel
 induction fuel with
 | zero =>
  intro listed a w _ hr hy hS _ H
  refine ⟨fun h => (by rw [h] at hr; cases hr), fun j hj => ?_⟩
  by_cases hji : j = i
  ·rw [hji]; exact hy.wpOp hi hS ⟨fun _ => hS, H⟩
  ·have := ready_mono hj hji
   rw [H.1] at this
   cases this
 | succ fuel ih =>
  intro listed a w hfree hr hy hS hN H
  refine ⟨fun h => (by rw [h] at hr; cases hr), fun j hj => ?_⟩
  by_cases hji : j = i
  ·rw [hji]; exact hy.wpOp hi hS ⟨fun _ => hS, H⟩
  ·have h1 := H.2 j (ready_mono hj hji)
   obtain ⟨hjun, oj, hoj, hall⟩ := mem_ready.1 hj
   have hun := (mem_ready.1 hr).1
   have hnot : ∀ e ∈ oj.after, Region.binds md e = true → e.on ≠ i := fun e he hb heq => by
    have q1 := hall e he hb
    rw [heq] at q1
    rcases Nat.lt_or_ge i listed.size with h' | h'
    ·simp [h'] at hun q1; rw [hun] at q1; cases q1
    ·simp [Array.getElem?_eq_none h'] at q1
   have hjs : j ∉ sts := fun hm => by
    obtain ⟨e, he, hb, heq⟩ := hst j hm oj hoj
    exact hnot e he hb heq
   have hN2 : noneUp sts ((listed.setIfInBounds i true).setIfInBounds j true) := noneUp_set (noneUp_set hN hist) hjs
   have h2 := wpOp_putIf hoj (hfree j oj hoj hji hjun hnot) (fun cs b => hsel i oi cs b hi) (fun cs b => hsel j oj cs b hoj) hQ hy h1
   refine wpOp_mono (fun a' w' h3 => ⟨fun _ => h3.2.1 hN2, ih (listed.setIfInBounds j true) a' w' ?_ (ready_mono hr (Ne.symm hji)) h3.1 (h3.2.1 hN2) (noneUp_set hN hjs) ?_⟩) h2
   ·intro k ok hk hki hku hno
    refine hfree k ok hk hki ?_ hno
    by_cases hjk : j = k
    ·rw [← hjk]; exact hjun
    ·rw [getD_set_ne true hjk] at hku; exact hku
   ·rw [Array.setIfInBounds_comm _ _ hji]
    exact h3.2.2
theorem noneUp_of {listed : Array Bool} (h : sts.all (fun k => !(listed.getD k true)) = true) : noneUp sts listed := fun k hk => by
 have := List.all_eq_true.1 h k hk
 simpa using this
/-- The stores wait for number 'i' (to be reckoned). -/
def waitFor (md : Region.Mode) (ops : Array Oper) (sts : List Nat) (i : Nat) : Bool := sts.all fun k => match ops[k]? with
 | some o => o.after.any fun e => Region.binds md e && e.on == i
 | none => true
theorem waitFor_spec {i : Nat} (h : waitFor md ops sts i = true) : ∀ k, k ∈ sts → ∀ ok, ops[k]? = some ok → ∃ e ∈ ok.after, Region.binds md e = true ∧ e.on = i := fun k hk ok hok => by
 have h1 := List.all_eq_true.1 h k hk
 simp only [hok, Array.any_eq_true'] at h1
 obtain ⟨e, he, h2⟩ := h1
 simp only [Bool.and_eq_true, beq_iff_eq] at h2
 exact ⟨e, he, h2.1, h2.2⟩
theorem wpL_take {i : Nat} {oi : Oper} {v : Value} {fuel : Nat} {listed : Array Bool} {a : Act} {w : World} (hi : ops[i]? = some oi)
  (hs : Region.noSelect ops = true) (hf : Region.free md ops listed i = true) (hr : (Region.ready md ops listed).contains i = true) (hwt : waitFor md ops sts i = true) (hni : sts.contains i = false) (hno : sts.all (fun k => !(listed.getD k true)) = true)
  (hQ : ∀ c a w, Q (.panic c) (a.put oi.dst v) w → Q (.panic c) a w) (hy : YieldsIf P ops S oi v a) (hS : S w)
  (h : wpL P md ops Q S sts fuel (listed.setIfInBounds i true) (a.put oi.dst v) w) : wpL P md ops Q S sts (fuel + 1) listed a w :=
 wpL_first hi (Region.noSelect_spec hs) hQ (fun hm => by rw [List.contains_eq_mem] at hni; simp [hm] at hni) (waitFor_spec hwt) fuel listed a w (Region.free_spec hi hf) (by simpa using hr) hy hS (noneUp_of hno) h
def AllL (P : Program) (md : Region.Mode) (ops : Array Oper) (Q : Exit → Act → World → Prop) (S : World → Prop) (sts : List Nat) (fuel : Nat) (listed : Array Bool) (a : Act) (w : World) (rs : List Nat) : Prop :=
 ∀ i ∈ rs, wpOp P ops Q i (fun a' w' => (noneUp sts (listed.setIfInBounds i true) → S w') ∧ wpL P md ops Q S sts fuel (listed.setIfInBounds i true) a' w') a w
theorem AllL.nil {fuel : Nat} {listed : Array Bool} {a : Act} {w : World} : AllL P md ops Q S sts fuel listed a w [] := fun _ h => by cases h
/-- An operation that is none of the stores: S anew. -/
theorem AllL.cons {fuel : Nat} {listed : Array Bool} {a : Act} {w : World} {i : Nat} {o : Oper} {rs : List Nat} (ho : ops[i]? = some o)
  (h : ∀ K' : Act → World → Prop, Shut (∀ a w, S w → wpL P md ops Q S sts fuel (listed.setIfInBounds i true) a w → K' a w) → if Region.wanted o (yielded ops a.tmps) = true then Oper.wp P o a w K' Q else K' (a.put o.dst undef) w)
  (hs : AllL P md ops Q S sts fuel listed a w rs) : AllL P md ops Q S sts fuel listed a w (i :: rs) := fun j hj => by
 rcases List.mem_cons.1 hj with rfl | hj
 ·exact wpOp_step ho (fun K' hK => h K' (fun a w hS hW => hK a w ⟨fun _ => hS, hW⟩))
 ·exact hs j hj
/-- From the first of the stores on: S is asked no more. -/
theorem AllL.late {fuel : Nat} {listed : Array Bool} {a : Act} {w : World} {i : Nat} {o : Oper} {rs : List Nat} (ho : ops[i]? = some o) (hup : sts.any (fun k => (listed.setIfInBounds i true).getD k true) = true)
  (h : ∀ K' : Act → World → Prop, Shut (∀ a w, wpL P md ops Q S sts fuel (listed.setIfInBounds i true) a w → K' a w) → if Region.wanted o (yielded ops a.tmps) = true then Oper.wp P o a w K' Q else K' (a.put o.dst undef) w)
  (hs : AllL P md ops Q S sts fuel listed a w rs) : AllL P md ops Q S sts fuel listed a w (i :: rs) := fun j hj => by
 rcases List.mem_cons.1 hj with rfl | hj
 ·refine wpOp_step ho (fun K' hK => h K' (fun a w hW => hK a w ⟨fun hN => ?_, hW⟩))
  obtain ⟨k, hk, hk2⟩ := List.any_eq_true.1 hup
  rw [hN k hk] at hk2
  exact absurd hk2 (by simp)
 ·exact hs j hj
theorem wpL_ready {rs : List Nat} {fuel : Nat} {listed : Array Bool} {a : Act} {w : World} (hr : Region.ready md ops listed = rs) (hne : rs ≠ [])
  (h : AllL P md ops Q S sts fuel listed a w rs) : wpL P md ops Q S sts (fuel + 1) listed a w := ⟨fun h0 => absurd (hr ▸ h0) hne, hr ▸ h⟩
theorem wpL_done {listed : Array Bool} {a : Act} {w : World} (hr : Region.ready md ops listed = []) (h : Q .normal a w) : ∀ fuel, wpL P md ops Q S sts fuel listed a w
 | 0 => ⟨hr, h⟩
 | _ + 1 => ⟨fun _ => h, by rw [hr]; simp⟩
theorem wp_region_late (sts : List Nat) (S : World → Prop) {id : Nat} {a : Act} {w : World} (hm : P.follows .mixedOrders = true) (h : wpL P .any ops Q S sts ops.size (Array.replicate ops.size false) a w.drew) : (Code.region id ops true).wp P Q a w :=
 wp_region_any hm (wpL_any _ _ _ _ h)
/-- An operation that yields in every world. -/
theorem wpL_firstT {i : Nat} {oi : Oper} {v : Value} (hi : ops[i]? = some oi) (hsel : ∀ (j : Nat) (o : Oper) cs b, ops[j]? = some o → o.op ≠ .select cs b)
  (hQ : ∀ c a w, Q (.panic c) (a.put oi.dst v) w → Q (.panic c) a w) (hist : i ∉ sts) :
  ∀ (fuel : Nat) (listed : Array Bool) (a : Act) (w : World),
   (∀ j oj, ops[j]? = some oj → j ≠ i → listed.getD j true = false → (∀ e ∈ oj.after, Region.binds md e = true → e.on ≠ i) → oi.apart ops oj = true) →
   i ∈ Region.ready md ops listed → YieldsIf P ops (fun _ => True) oi v a → (noneUp sts listed → S w) →
   wpL P md ops Q S sts fuel (listed.setIfInBounds i true) (a.put oi.dst v) w → wpL P md ops Q S sts (fuel + 1) listed a w := by
 intro fuel
 have hback : ∀ listed : Array Bool, noneUp sts (listed.setIfInBounds i true) → noneUp sts listed := fun listed h k hk => by
  have hne : i ≠ k := fun e => hist (e ▸ hk)
  have := h k hk
  rw [← this]
  simp [Array.getD_eq_getD_getElem?, hne]
 induction fuel with
 | zero =>
  intro listed a w _ hr hy hS H
  refine ⟨fun h => (by rw [h] at hr; cases hr), fun j hj => ?_⟩
  by_cases hji : j = i
  ·rw [hji]; exact hy.wpOp hi trivial ⟨fun hN => hS (hback _ hN), H⟩
  ·have := ready_mono hj hji
   rw [H.1] at this
   cases this
 | succ fuel ih =>
  intro listed a w hfree hr hy hS H
  refine ⟨fun h => (by rw [h] at hr; cases hr), fun j hj => ?_⟩
  by_cases hji : j = i
  ·rw [hji]; exact hy.wpOp hi trivial ⟨fun hN => hS (hback _ hN), H⟩
  ·have h1 := H.2 j (ready_mono hj hji)
   obtain ⟨hjun, oj, hoj, hall⟩ := mem_ready.1 hj
   have hun := (mem_ready.1 hr).1
   have hnot : ∀ e ∈ oj.after, Region.binds md e = true → e.on ≠ i := fun e he hb heq => by
    have q1 := hall e he hb
    rw [heq] at q1
    rcases Nat.lt_or_ge i listed.size with h' | h'
    ·simp [h'] at hun q1; rw [hun] at q1; cases q1
    ·simp [Array.getElem?_eq_none h'] at q1
   have h2 := wpOp_putIf hoj (hfree j oj hoj hji hjun hnot) (fun cs b => hsel i oi cs b hi) (fun cs b => hsel j oj cs b hoj) hQ hy h1
   have hS2 : ∀ w' : World, (noneUp sts ((listed.setIfInBounds i true).setIfInBounds j true) → S w') → noneUp sts (listed.setIfInBounds j true) → S w' := fun w' h hN =>
    h (by rw [Array.setIfInBounds_comm _ _ (Ne.symm hji)]; exact noneUp_set hN hist)
   refine wpOp_mono (fun a' w' h3 => ⟨hS2 w' h3.2.1, ih (listed.setIfInBounds j true) a' w' ?_ (ready_mono hr (Ne.symm hji)) h3.1 (hS2 w' h3.2.1) ?_⟩) h2
   ·intro k ok hk hki hku hno
    refine hfree k ok hk hki ?_ hno
    by_cases hjk : j = k
    ·rw [← hjk]; exact hjun
    ·rw [getD_set_ne true hjk] at hku; exact hku
   ·rw [Array.setIfInBounds_comm _ _ hji]
    exact h3.2.2
theorem wpL_takeT {i : Nat} {oi : Oper} {v : Value} {fuel : Nat} {listed : Array Bool} {a : Act} {w : World} (hi : ops[i]? = some oi)
  (hs : Region.noSelect ops = true) (hf : Region.free md ops listed i = true) (hr : (Region.ready md ops listed).contains i = true) (hni : sts.contains i = false)
  (hQ : ∀ c a w, Q (.panic c) (a.put oi.dst v) w → Q (.panic c) a w) (hy : YieldsIf P ops (fun _ => True) oi v a) (hS : noneUp sts listed → S w)
  (h : wpL P md ops Q S sts fuel (listed.setIfInBounds i true) (a.put oi.dst v) w) : wpL P md ops Q S sts (fuel + 1) listed a w :=
 wpL_firstT hi (Region.noSelect_spec hs) hQ (fun hm => by rw [List.contains_eq_mem] at hni; simp [hm] at hni) fuel listed a w (Region.free_spec hi hf) (by simpa using hr) hy hS h
end
end Go.Proofs.YtefenbhcbpfihaaDoor.Q

-- Why a set of tasks isn't right, as plain functions (no program in sight).
namespace Go.Proofs.YtefenbhcbpfihaaDoor.Q
open Go.RowKit Go.Proofs.YtefenbhcbpfihaaDoorW.PrintWords Go.Proofs.YtefenbhcbpfihaaDoorW.PrintLast Go.Proofs.YtefenbhcbpfihaaDoorW.PrintMore
attribute [local go_sem] max2_int min2_int max_two min_two max_three min_three max_four min_four   -- for this text's walks alone
set_option linter.unusedVariables false
set_option linter.unusedSimpArgs false

abbrev TK := S39
def inB (n a b : Int) : Bool := decide (n ≥ a) && decide (n ≤ b)
def tNamed (t : TK) (ahead : List TK) : Bool := named t.f0 && !(ahead.any (fun x => x.f0.toList == t.f0.toList))
def tTimed (t : TK) : Bool := inB t.f1 1 1048576 && inB t.f2 1 t.f1 && inB t.f3 1 t.f2 && inB t.f6 0 1000
def tModed (t : TK) : Bool := if t.f9 = 1 then inB t.f5 1 t.f3 && (t.f4 == 0) else inB t.f9 2 3 && inB t.f4 1 t.f2 && (t.f5 == 0)
def tFirm (t : TK) : Bool := inB t.f8 1 64 && inB t.f7 1 t.f8
def tRanked (t : TK) (ahead : List TK) : Bool := inB t.f10 0 255 && !(ahead.any (fun x => x.f10 == t.f10))
/-- What is wrong with a task behind others; 0: nothing. -/
def whyT (t : TK) (ahead : List TK) : Int := if tNamed t ahead = false then 3 else if tTimed t = false then 4 else if tModed t = false then 5 else if tFirm t = false then 6 else if tRanked t ahead = false then 7 else 0
def whyFrom : List TK → List TK → Int → Int × Int
 | [], _, _ => (0, -1)
 | t :: r, ahead, i => if whyT t ahead = 0 then whyFrom r (ahead ++ [t]) (i + 1) else (whyT t ahead, i)
def whyS (b : Int) (ts : List TK) : Int × Int := if inB b 1 1000 = false then (1, -1) else if inB (ts.length : Int) 1 16 = false then (2, -1) else whyFrom ts [] 0
end Go.Proofs.YtefenbhcbpfihaaDoor.Q

-- Whether a task behind others has a name, or a priority, of its own: walked by hand.
namespace Go.Proofs.YtefenbhcbpfihaaDoor.Q
open Go.RowKit Go.Proofs.YtefenbhcbpfihaaDoorW.PrintWords Go.Proofs.YtefenbhcbpfihaaDoorW.PrintLast Go.Proofs.YtefenbhcbpfihaaDoorW.PrintMore
attribute [local go_sem] max2_int min2_int max_two min_two max_three min_three max_four min_four   -- for this text's walks alone
set_option linter.unusedVariables false
set_option linter.unusedSimpArgs false

def tkC (x : TK) : Array Value := #[.string x.f0, .int .i64 x.f1, .int .i64 x.f2, .int .i64 x.f3, .int .i64 x.f4, .int .i64 x.f5, .int .i64 x.f6, .int .i64 x.f7, .int .i64 x.f8, .int .i64 x.f9, .int .i64 x.f10]
def tkV (x : TK) : Value := .agg (tkC x)
set_option maxHeartbeats 1000000 in
set_option maxRecDepth 100000 in
theorem index_any (W : World) (A : Option Addr) (c : Nat) (xs : List TK) (cb : Array Value) (pr : TK → Bool) (g : Nat) (eg : ∀ args w, (callFunc g args).run Tryd.prog w = .ok (.enter g args) w) (hxs : Kd.C k39 W A xs.length xs) (hc : xs.length ≤ c) (hlen : xs.length ≤ 1000000)
  (hcmp : ∀ x, ∀ W', Below W.heap.size W W' → Calls Tryd.prog g (#[tkV x] ++ cb) W' fun e w' => e = .returned (.bool (pr x)) ∧ Below W'.heap.size W' w') :
  Calls Tryd.prog 70 #[.slice A xs.length c, .func (.func g) #[] cb] W fun e w' => ∃ r : Int, e = .returned (.int .i64 r) ∧ (decide (r ≥ 0) = xs.any pr) ∧ Below W.heap.size W w' := by
 have HC := Aside0.mk hcmp
 have HX := Aside0.mk hxs
 clear hcmp hxs
 go_enter Tryd.func70, Tryd.ntmps70
 go_wp2
 go_loopg [8] xs.length (fun kx v8 wr => ∃ i : Nat, v8 = .int .i64 i ∧ i + kx = xs.length ∧ Aside0 ((xs.take i).any pr = false) ∧ Aside0 (Below W.heap.size W wr))
 case atStart => exact ⟨0, rfl, by omega, ⟨by simp⟩, ⟨Below.refl _ _⟩⟩
 case round =>
  obtain ⟨i, rfl, hik, HN, HB⟩ := hrel
  by_cases hlt : i < xs.length
  ·have hd : decide ((i : Int) < (xs.length : Int)) = true := by simp; omega
   obtain ⟨ad, e, x0, x1, x2, x3, x4, x5, x6, x7, x8, x9, x10⟩ := at_T39 (Kd.C_below HX.out HB.out) (i : Int) (by omega) (by omega)
   cases e
   simp only [Int.toNat_natCast] at x0 x1 x2 x3 x4 x5 x6 x7 x8 x9 x10
   obtain ⟨x, hx⟩ : ∃ x, rd_T39 xs (i : Int) = x := ⟨_, rfl⟩
   have HXI : Aside0 (xs[i]? = some x) := ⟨by rw [← hx]; simp [rd_T39, List.getD_eq_getElem?_getD, List.getElem?_eq_getElem hlt]⟩
   rw [hx] at x0 x1 x2 x3 x4 x5 x6 x7 x8 x9 x10
   have hcl := HC.out x wr HB.out
   have p0 : (0 : Int) ≤ i := by omega
   have p1 : (i : Int) < (xs.length : Int) := by omega
   clear hx
   go_wp2
   refine hcl.mono ?_
   rintro e w' ⟨rfl, hb⟩
   have HB2 := Aside0.mk (below_step HB.out hb)
   cases hp : pr x with
   | true =>
    have HA : Aside0 (xs.any pr = true) := ⟨List.any_eq_true.2 ⟨x, List.mem_of_getElem? HXI.out, hp⟩⟩
    clear hcl hb HB hp
    go_wp2
    go_ret
    exact ⟨i, rfl, by rw [HA.out]; simp, HB2.out⟩
   | false =>
    have HN2 : Aside0 ((xs.take (i + 1)).any pr = false) := ⟨by
     have h := HXI.out
     rw [List.getElem?_eq_getElem hlt] at h
     rw [List.take_succ_eq_append_getElem hlt, List.any_append, HN.out, Option.some.inj h]
     simp [hp]⟩
    clear hcl hb HB hp HN
    go_wp2
    go_roundg (xs.length - (i + 1))
    case measure => omega
    case rel => exact ⟨i + 1, by first | rfl | simp, by omega, HN2, HB2⟩
  ·have hd : decide ((i : Int) < (xs.length : Int)) = false := by simp; omega
   have HA : Aside0 (xs.any pr = false) := ⟨by have := HN.out; rwa [List.take_of_length_le (by omega)] at this⟩
   go_wp2
   go_ret
   exact ⟨-1, rfl, by rw [HA.out]; rfl, HB.out⟩
set_option maxHeartbeats 1000000 in
set_option maxRecDepth 100000 in
theorem contains_any (W : World) (A : Option Addr) (c : Nat) (xs : List TK) (cb : Array Value) (pr : TK → Bool) (g : Nat) (eg : ∀ args w, (callFunc g args).run Tryd.prog w = .ok (.enter g args) w) (hxs : Kd.C k39 W A xs.length xs) (hc : xs.length ≤ c) (hlen : xs.length ≤ 1000000)
  (hcmp : ∀ x, ∀ W', Below W.heap.size W W' → Calls Tryd.prog g (#[tkV x] ++ cb) W' fun e w' => e = .returned (.bool (pr x)) ∧ Below W'.heap.size W' w') :
  Calls Tryd.prog 61 #[.slice A xs.length c, .func (.func g) #[] cb] W fun e w' => e = .returned (.bool (xs.any pr)) ∧ Below W.heap.size W w' := by
 have H := Aside0.mk (index_any W A c xs cb pr g eg hxs hc hlen hcmp)
 clear hxs hcmp
 go_enter Tryd.func61, Tryd.ntmps61
 go_wp2_with fail
 refine H.out.mono ?_
 rintro e w' ⟨r, rfl, hr, hb⟩
 have HB := Aside0.mk hb
 have HR := Aside0.mk hr
 clear hb hr H
 go_wp2_with fail
 go_ret
 exact ⟨by rw [← HR.out]; rfl, HB.out⟩
set_option maxHeartbeats 1000000 in
set_option maxRecDepth 100000 in
theorem named_same (t x : TK) (b : Nat) (W : World) (hb : W.heap[b]? = some (.cells (tkC t) 39 (0, 0))) :
  Calls Tryd.prog 62 (#[tkV x] ++ #[.pointer (some ⟨b, 0, none⟩)]) W fun e w' => e = .returned (.bool (x.f0.toList == t.f0.toList)) ∧ Below W.heap.size W w' := by
 have HB := Aside0.mk (Below.refl W.heap.size W)
 have x0 : ∀ o, (W.alloc o).cell? ⟨b, 0, none⟩ = some (.string t.f0) := fun o => blk_cell (blk_alloc hb o) 0
 clear hb
 unfold tkV tkC
 go_enter Tryd.func62, Tryd.ntmps62
 go_wp2
 go_ret
 exact ⟨rfl, by repeat (first | exact HB.out | apply below_drew | apply below_alloc)⟩
set_option maxHeartbeats 1000000 in
set_option maxRecDepth 100000 in
theorem ranked_same (t x : TK) (b : Nat) (W : World) (hb : W.heap[b]? = some (.cells (tkC t) 39 (0, 0))) :
  Calls Tryd.prog 63 (#[tkV x] ++ #[.pointer (some ⟨b, 0, none⟩)]) W fun e w' => e = .returned (.bool (x.f10 == t.f10)) ∧ Below W.heap.size W w' := by
 have HB := Aside0.mk (Below.refl W.heap.size W)
 have x0 : ∀ o, (W.alloc o).cell? ⟨b, 10, none⟩ = some (.int .i64 t.f10) := fun o => blk_cell (blk_alloc hb o) 10
 clear hb
 unfold tkV tkC
 go_enter Tryd.func63, Tryd.ntmps63
 go_wp2
 go_ret
 exact ⟨rfl, by repeat (first | exact HB.out | apply below_drew | apply below_alloc)⟩
end Go.Proofs.YtefenbhcbpfihaaDoor.Q

-- Tasks' places by priority: walked by hand, over the kit's contract of slices.SortFunc.
namespace Go.Proofs.YtefenbhcbpfihaaDoor.Q
open Go.RowKit Go.Proofs.YtefenbhcbpfihaaDoorW.PrintWords Go.Proofs.YtefenbhcbpfihaaDoorW.PrintLast Go.Proofs.YtefenbhcbpfihaaDoorW.PrintMore
attribute [local go_sem] max2_int min2_int max_two min_two max_three min_three max_four min_four   -- for this text's walks alone
set_option linter.unusedVariables false
set_option linter.unusedSimpArgs false

open Go.Sort Go.Shelf
/-- Places by priority. -/
def ordN (ts : List TK) : List (Fin ts.length) := (List.finRange ts.length).mergeSort (fun x y => decide (ts[x].f10 ≤ ts[y].f10))
def ordF (ts : List TK) : List Int := (ordN ts).map (fun i => (i.val : Int))
def task_Order.f (_b : Int) (ts : List TK) : Option (List Int) := if (ts.map (fun t => t.f10)).Nodup ∧ ts.length ≤ 1000 then some (ordF ts) else none
def ordC (ts : List TK) (i j : Fin ts.length) : Int := Lib.compareInt ts[i].f10 ts[j].f10
def ordE {n : Nat} (i : Fin n) : Value := .int .i64 (i.val : Int)
theorem ordL (ts : List TK) (i j : Fin ts.length) : ltOf (ordC ts) i j = decide (ts[i].f10 < ts[j].f10) := by
 unfold ltOf ordC Lib.compareInt
 generalize ts[i].f10 = a
 generalize ts[j].f10 = b
 by_cases h1 : a < b
 ·simp [h1]
 ·by_cases h2 : b < a <;> simp [h1, h2]
theorem ordO (ts : List TK) : SWO (ltOf (ordC ts)) where
 irrefl x := by rw [ordL]; simp
 trans x y z h1 h2 := by rw [ordL] at *; simp at *; omega
 ntrans x y z h1 h2 := by rw [ordL] at *; simp at *; omega
theorem ordT (ts : List TK) (hn : (ts.map (fun t => t.f10)).Nodup) (x y : Fin ts.length) (h1 : ltOf (ordC ts) x y = false) (h2 : ltOf (ordC ts) y x = false) : x = y := by
 rw [ordL] at h1 h2
 simp at h1 h2
 have e : ts[x].f10 = ts[y].f10 := Int.le_antisymm h2 h1
 have hp := List.pairwise_iff_getElem.1 hn
 have key : ∀ a b : Fin ts.length, a.val < b.val → ts[a].f10 ≠ ts[b].f10 := fun a b hab => by
  have := hp a.val b.val (by simp) (by simp) hab
  simpa using this
 rcases Nat.lt_trichotomy x.val y.val with h | h | h
 ·exact absurd e (key x y h)
 ·exact Fin.ext h
 ·exact absurd e.symm (key y x h)
theorem ordG (ts : List TK) : (fun x y : Fin ts.length => !ltOf (ordC ts) y x) = fun x y => decide (ts[x].f10 ≤ ts[y].f10) := by
 funext x y
 rw [ordL, ← decide_not, decide_eq_decide]
 omega
theorem info_i64 : (Tryd.prog.info? 3).map (fun i => (i.zero, i.size, i.bytes)) = some (some (.int .i64 0), 1, 8) := by kernel_rfl
set_option maxHeartbeats 1000000 in
set_option maxRecDepth 100000 in
theorem ord_cmp (b : Int) (A : Option Addr) (c : Nat) (ts : List TK) (gs : Nat) (W : World) (hk : W.heap[gs]? = some (.cells #[.int .i64 b, .slice A ts.length c] 24 (0, 0))) (hts : Kd.C k39 W A ts.length ts) (hlen : ts.length ≤ 1000000) (i j : Fin ts.length) :
  Calls Tryd.prog 27 #[.int .i64 (i.val : Int), .int .i64 (j.val : Int), .pointer (some ⟨gs, 0, none⟩)] W fun e w' => e = .returned (.int .i64 (ordC ts i j)) ∧ ∃ q, w' = W.drewN q := by
 have hcon := fun W' => AnyG.cmp_Compare_int Tryd.shCmp ts[i].f10 ts[j].f10 W'
 change ∀ W', Calls Tryd.prog 28 _ _ _ at hcon
 have hi := i.isLt
 have hj := j.isLt
 unfold ordC
 obtain ⟨ad, e, x0, x1, x2, x3, x4, x5, x6, x7, x8, x9, x10⟩ := at_T39 hts (i.val : Int) (by omega) (by omega)
 cases e
 obtain ⟨ad', e, y0, y1, y2, y3, y4, y5, y6, y7, y8, y9, y10⟩ := at_T39 hts (j.val : Int) (by omega) (by omega)
 cases e
 clear x0 x1 x2 x3 x4 x5 x6 x7 x8 x9 y0 y1 y2 y3 y4 y5 y6 y7 y8 y9
 simp only [Int.toNat_natCast] at x10 y10
 have gx : rd_T39 ts (i.val : Int) = ts[i] := by simp [rd_T39, List.getD_eq_getElem?_getD, List.getElem?_eq_getElem hi]
 have gy : rd_T39 ts (j.val : Int) = ts[j] := by simp [rd_T39, List.getD_eq_getElem?_getD, List.getElem?_eq_getElem hj]
 rw [gx] at x10
 rw [gy] at y10
 obtain ⟨p, hp⟩ : ∃ p, ts[i].f10 = p := ⟨_, rfl⟩
 obtain ⟨q, hq⟩ : ∃ q, ts[j].f10 = q := ⟨_, rfl⟩
 rw [hp] at x10
 rw [hq] at y10
 rw [hp, hq] at hcon ⊢
 obtain ⟨r, hr⟩ : ∃ r, Lib.compareInt p q = r := ⟨_, rfl⟩
 rw [hr] at hcon ⊢
 have s1 := blk_cell hk 1
 obtain ⟨n, hn⟩ : ∃ n, i.val = n := ⟨_, rfl⟩
 obtain ⟨m, hm⟩ : ∃ m, j.val = m := ⟨_, rfl⟩
 rw [hn] at x10 hi ⊢
 rw [hm] at y10 hj ⊢
 have p0 : (0 : Int) ≤ n := by omega
 have p1 : (n : Int) < (ts.length : Int) := by omega
 have q0 : (0 : Int) ≤ m := by omega
 have q1 : (m : Int) < (ts.length : Int) := by omega
 clear hp hq hr gx gy hn hm hk hts hlen
 go_enter Tryd.func27, Tryd.ntmps27
 go_wp2_with fail
 go_quiet ((go_at_call 28; exact Calls.quiet_of_same (hcon _)))
 go_wp2_with fail
 go_ret
 exact ⟨rfl, _, rfl⟩
/-- What the sort leaves of a row of the call's own. -/
theorem sorted_row {n : Nat} [Inhabited (Fin n)] {W w0 : World} {base g cap : Nat} {e : TypeId} {xs ys : List (Fin n)} (hl : ys.length = xs.length) (hg : base ≤ g) (hx : W.ownsRow base e 1 (.slice (some ⟨g, 0, none⟩) xs.length cap) xs.length (xs.map ordE)) (hB : Below base w0 W) (m : Nat) (os : Array Obj) :
  (sortWorld ordE W g 0 m ys.toArray os).ownsRow base e 1 (.slice (some ⟨g, 0, none⟩) xs.length cap) xs.length (ys.map ordE) ∧ Below base w0 (sortWorld ordE W g 0 m ys.toArray os) := by
 obtain ⟨h1, h2⟩ := hx
 rcases h2 with ⟨h2, -⟩ | ⟨g', cap', cur, h2, h3, h4, h5, h6, h7, h8⟩
 ·cases h2
 ·cases h2
  have hgl : g < W.heap.size := by
   rcases Nat.lt_or_ge g W.heap.size with h | h
   ·exact h
   ·rw [Array.getElem?_eq_none h] at h4; cases h4
  have hb : (sortWorld ordE W g 0 m ys.toArray os).heap[g]? = some (.cells (putCells ordE 0 ys.toArray cur) e (0, 0)) := by
   show ((W.heap.modify g (onCells (putCells ordE 0 ys.toArray))) ++ os)[g]? = _
   rw [Array.getElem?_append_left (by simpa using hgl), Array.getElem?_modify, if_pos rfl, h4]
   rfl
  refine ⟨⟨by simp [hl], .inr ⟨g, cap, _, rfl, h3, hb, h5, h6, by simp [putCells, h7], ?_⟩⟩, ⟨hB.os, hB.tape, hB.output, ?_, fun k hk => ?_⟩⟩
  ·apply List.ext_getElem?
   intro j
   rw [List.getElem?_take]
   have hcs : cur.size = cap := by omega
   by_cases hj : j < xs.length
   ·rw [if_pos (by omega)]
    have hjc : j < cur.size := by omega
    have hjy : j < ys.length := by omega
    simp only [putCells, Array.getElem?_toList, Array.getElem?_mapIdx, Array.getElem?_eq_getElem hjc, Option.map_some, List.getElem?_map, List.getElem?_eq_getElem hjy, List.size_toArray, Nat.sub_zero]
    rw [if_pos ⟨Nat.zero_le _, by omega⟩]
    congr 2
    simp [getElem!_pos, hjy]
   ·rw [if_neg (by omega), List.getElem?_eq_none (by simp; omega)]
  ·have h1 := hB.size
   have h2 : (sortWorld ordE W g 0 m ys.toArray os).heap.size = W.heap.size + os.size := by
    show ((W.heap.modify g (onCells (putCells ordE 0 ys.toArray))) ++ os).size = _
    simp
   omega
  ·show ((W.heap.modify g (onCells (putCells ordE 0 ys.toArray))) ++ os)[k]? = _
   rw [Array.getElem?_append_left (by simp; omega), Array.getElem?_modify, if_neg (by omega)]
   exact hB.block k hk
theorem ordE_map {n : Nat} (l : List (Fin n)) : l.map ordE = (l.map (fun i => (i.val : Int))).map (Value.int .i64) := by
 rw [List.map_map]; rfl
theorem finR (n : Nat) : (List.finRange n).map (fun i => (i.val : Int)) = (List.range n).map (fun i : Nat => (i : Int)) := by
 apply List.ext_getElem
 ·simp
 ·intro i h1 h2
  simp
theorem ord_out {n : Nat} [Inhabited (Fin n)] {W w0 : World} {base g cap : Nat} {xs ys : List (Fin n)} (hl : ys.length = xs.length) (hR : Kd.R (Kd.int .i64) 3 W base (fun _ => True) (.slice (some ⟨g, 0, none⟩) xs.length cap) (xs.map (fun i => (i.val : Int)))) (hB : Below base w0 W) (m : Nat) (os : Array Obj) :
  Kd.R (Kd.int .i64) 3 (sortWorld ordE W g 0 m ys.toArray os) base (fun _ => True) (.slice (some ⟨g, 0, none⟩) xs.length cap) (ys.map (fun i => (i.val : Int))) ∧ Below base w0 (sortWorld ordE W g 0 m ys.toArray os) := by
 have ho := Kd.own_of_R hR
 have hx : W.ownsRow base 3 1 (.slice (some ⟨g, 0, none⟩) xs.length cap) xs.length (xs.map ordE) := by
  rw [ordE_map]
  have ho2 : W.ownsRow base 3 1 (.slice (some ⟨g, 0, none⟩) xs.length cap) (xs.map (fun i => (i.val : Int))).length ((xs.map (fun i => (i.val : Int))).map (Value.int .i64)) := ho
  rw [List.length_map] at ho2
  exact ho2
 have hg : base ≤ g := own_base hx g rfl
 have hs := sorted_row hl hg hx hB m os
 refine ⟨Kd.R_of_own ?_ (fun _ _ => trivial), hs.2⟩
 have := hs.1
 rw [ordE_map] at this
 have e : (ys.map (fun i => (i.val : Int))).length = xs.length := by simp [hl]
 rw [e]
 exact this
set_option maxHeartbeats 4000000 in
set_option maxRecDepth 100000 in
theorem task_Order.calls (a0_0 : Int) (A0_1 : Option Addr) (c0_1 : Nat) (l0_1 : List TK) (r : List Int) (w : World) (hr0_1 : Kd.C k39 w A0_1 l0_1.length l0_1) (hc0_1 : l0_1.length ≤ c0_1) (h : task_Order.f a0_0 l0_1 = some r) :
  Calls Tryd.prog 21 #[.agg #[.int .i64 a0_0, .slice A0_1 l0_1.length c0_1]] w fun e w' => ∃ v0_ : Value, e = .returned v0_ ∧ Kd.R (Kd.int .i64) 3 w' w.heap.size (fun _ => True) v0_ r ∧ Below w.heap.size w w' := by
 obtain ⟨ts, hts⟩ : ∃ ts, l0_1 = ts := ⟨_, rfl⟩
 subst hts
 unfold task_Order.f at h
 split at h
 case isFalse => exact absurd h (by simp)
 case isTrue hcond =>
 obtain ⟨hnd, hlen⟩ := hcond
 have HR := Aside0.mk (Option.some.inj h)
 have HND := Aside0.mk hnd
 have HC := Aside0.mk hr0_1
 clear h hnd hr0_1
 obtain ⟨W1, hW1⟩ : ∃ W1, W1 = w.alloc (.cells #[.int .i64 a0_0, .slice A0_1 l0_1.length c0_1] 24 (0, 0)) := ⟨_, rfl⟩
 have HW1 := Aside0.mk hW1
 have HB1 : Aside0 (Below w.heap.size w W1) := ⟨by rw [hW1]; exact below_alloc (Below.refl _ _) _⟩
 have HK1 : Aside0 (W1.heap[w.heap.size]? = some (.cells #[.int .i64 a0_0, .slice A0_1 l0_1.length c0_1] 24 (0, 0))) := ⟨by rw [hW1]; exact blk_new w _⟩
 have HZ1 : Aside0 (W1.heap.size = w.heap.size + 1) := ⟨by rw [hW1]; simp⟩
 have HC1 := Aside0.mk (Kd.C_below HC.out HB1.out)
 clear hW1
 go_enter Tryd.func21, Tryd.ntmps21
 go_wp2_with fail
 rw [← HW1.out]
 obtain ⟨gs, hgs⟩ : ∃ gs, w.heap.size = gs := ⟨_, rfl⟩
 have HGS := Aside0.mk hgs
 rw [hgs] at HK1 ⊢
 clear hgs
 go_loopg [3, 8] l0_1.length (fun kk v3 v8 wr => ∃ i : Nat, v8 = .int .i64 i ∧ i + kk = l0_1.length ∧ Aside0 (Kd.R (Kd.int .i64) 3 wr W1.heap.size (fun _ => True) v3 ((List.range i).map (fun i : Nat => (i : Int)))) ∧ Aside0 (Below W1.heap.size W1 wr))
 case atStart => exact ⟨0, rfl, by omega, ⟨Kd.R_nil _ _ _ _ _⟩, ⟨Below.refl _ _⟩⟩
 case round =>
  obtain ⟨i, rfl, hik, HO, HB⟩ := hrel
  by_cases hlt : i < l0_1.length
  ·have hd : decide ((i : Int) < (l0_1.length : Int)) = true := by simp; omega
   have hil : ((List.range i).map (fun i : Nat => (i : Int))).length = i := by simp
   have HL := Aside0.mk hil
   clear hil
   go_wp2_with (first | ((with_reducible refine gate_builtin (b := .append) (xs := #[.tmp 11, .tmp 13]) rfl ?_); at_builtin; go_must (refine Kd.R_append (Kd.int .i64) W1.heap.size rfl (.tmp 11) (.tmp 13) 28 3 (.int .i64 0) 8 rfl Tryd.underlying28 info_i64 rfl (by decide) (by omega) u3 ((List.range i).map (fun i : Nat => (i : Int))) (i : Int) [.int .i64 (i : Int)] (fun _ => True) (fun _ => False) rfl rfl ?aP (fun _ hk => hk.elim) ?aF ?aO HB.out ?aS ?aL ?_); (case aP => exact rfl); (case aF => exact (fun _ _ => trivial)); (case aO => exact (by (with_reducible repeat (first | apply Kd.R_alloc | apply Kd.R_drewN | apply Kd.R_drew)); exact HO.out)); (case aS => exact HB.out.size); (case aL => have := HL.out; omega); intro v119 w10 ho hb hg hat; have HO2 : Aside0 (Kd.R (Kd.int .i64) 3 w10 W1.heap.size (fun _ => True) v119 ((List.range (i + 1)).map (fun i : Nat => (i : Int)))) := ⟨by rw [List.range_succ, List.map_append]; exact ho⟩; have HB2 := Aside0.mk hb; clear HO HB ho hb hg hat))
   go_roundg (l0_1.length - (i + 1))
   case measure => omega
   case rel => exact ⟨i + 1, by first | rfl | simp, by omega, HO2, HB2⟩
  ·have hd : decide ((i : Int) < (l0_1.length : Int)) = false := by simp; omega
   obtain rfl : i = l0_1.length := by omega
   clear hik hlt
   obtain ⟨A3, c3, hv3⟩ := Kd.R_slice HO.out
   have hll : ((List.range l0_1.length).map (fun i : Nat => (i : Int))).length = l0_1.length := by simp
   rw [hll] at hv3
   rw [hv3] at HO ⊢
   clear hll hv3
   have eg : ∀ args w, (callFunc 27 args).run Tryd.prog w = .ok (.enter 27 args) w := fun args w => by go_simp; done
   by_cases hn : l0_1.length = 0
   ·have hS := fun W' => AnyF.slices_SortFunc_none (P := Tryd.prog) (ρ := Tryd.shSort_ren) { Tryd.shSort with } A3 c3 (.func (.func 27) #[] #[.pointer (some ⟨gs, 0, none⟩)]) W'
    change ∀ W', Calls Tryd.prog 26 _ _ _ at hS
    have HR2 : Aside0 (r = []) := ⟨by
     rw [← HR.out]
     have h0 : (ordF l0_1).length = l0_1.length := by unfold ordF ordN; simp
     exact List.eq_nil_of_length_eq_zero (by omega)⟩
    have HO3 : Aside0 (Kd.R (Kd.int .i64) 3 wr W1.heap.size (fun _ => True) (.slice A3 0 c3) []) := ⟨by have := HO.out; rw [hn] at this; exact this⟩
    rw [hn]
    clear HO hn
    go_wp2_with fail
    refine (hS _).mono ?_
    rintro e w' ⟨rfl, rfl⟩
    go_wp2_with fail
    go_ret
    rw [← HGS.out]
    exact ⟨_, rfl, by rw [HR2.out]; exact Kd.R_lower HO3.out (by have := HZ1.out; omega), below_step HB1.out HB.out⟩
   ·haveI : Inhabited (Fin l0_1.length) := ⟨⟨0, by omega⟩⟩
    have hrow : ∃ g cur, A3 = some ⟨g, 0, none⟩ ∧ W1.heap.size ≤ g ∧ wr.heap[g]? = some (.cells cur 3 (0, 0)) ∧ l0_1.length ≤ c3 ∧ c3 ≤ maxLen ∧ cur.size = c3 ∧ cur.toList.take l0_1.length = (List.finRange l0_1.length).map ordE := by
     have ho := Kd.own_of_R HO.out
     rcases ho.2 with ⟨h1, h2⟩ | ⟨g, cap, cur, h1, h2, h3, h4, h5, h6, h7⟩
     ·simp at h2; exact absurd (by rw [h2]; rfl) hn
     ·injection h1 with e1 e2 e3
      subst e3
      refine ⟨g, cur, e1, h2, h3, by simpa using h4, h5, by simpa using h6, ?_⟩
      rw [ordE_map, finR]
      simpa [encs] using h7
    obtain ⟨g, cur, rfl, hg, hcur, hlc, hcm, hcs, htk⟩ := hrow
    have hgl : g < wr.heap.size := by
     rcases Nat.lt_or_ge g wr.heap.size with h | h
     ·exact h
     ·rw [Array.getElem?_eq_none h] at hcur; cases hcur
    have hH : Holds ordE wr g 0 (List.finRange l0_1.length).toArray := fun j hj => by
     have hj2 : j < l0_1.length := by simpa using hj
     refine ⟨?_, ?_⟩
     ·have hc1 : wr.cell? ⟨g, 0 + j, none⟩ = cur[0 + j]? := blk_cell hcur _
      rw [hc1, Nat.zero_add]
      have h2 := congrArg (fun l : List Value => l[j]?) htk
      simp only [List.getElem?_take, if_pos hj2, Array.getElem?_toList, List.getElem?_map] at h2
      rw [h2, List.getElem?_eq_getElem (by simpa using hj2)]
      simp [getElem!_pos, hj2]
     ·exact blk_frozen hcur _
    have hx : wr.ownsRow W1.heap.size 3 1 (.slice (some ⟨g, 0, none⟩) (List.finRange l0_1.length).length c3) (List.finRange l0_1.length).length ((List.finRange l0_1.length).map ordE) := by
     rw [List.length_finRange]
     exact ⟨by simp, .inr ⟨g, c3, cur, rfl, hg, hcur, hlc, hcm, by omega, by rw [Nat.mul_one]; exact htk⟩⟩
    have hcmp : CmpLays1 Tryd.prog 27 #[.pointer (some ⟨gs, 0, none⟩)] ordE (ordC l0_1) g 0 (List.finRange l0_1.length).toArray.size wr := fun m os dk hs x y => by
     have hdk : dk.toList.length = (List.finRange l0_1.length).length := by simpa using hs
     have hr := sorted_row hdk hg hx HB.out m os
     have hb := hr.2
     have hk := blk_below HK1.out hb
     have hC := Kd.C_below HC1.out hb
     rw [show dk.toList.toArray = dk from by simp] at hk hC
     exact (ord_cmp a0_0 A0_1 c0_1 l0_1 gs _ hk hC (by omega) x y).mono fun _ _ ⟨he, q, hq⟩ => ⟨he, q, #[], by rw [hq, grow_empty]⟩
    have hS := Any.slices_SortFunc_total Tryd.shSort ordE (fun _ => rfl) (ordC l0_1) (ordO l0_1) 27 #[.pointer (some ⟨gs, 0, none⟩)] g 0 c3 (List.finRange l0_1.length).toArray wr eg hcmp hH hgl (by simp; omega) (ordT l0_1 HND.out)
    rw [ordG] at hS
    simp only [List.size_toArray, List.length_finRange] at hS
    change Calls Tryd.prog 26 _ _ _ at hS
    have HX := Aside0.mk hx
    have HG := Aside0.mk hg
    clear hH hcmp hx hcur hlc hcm hcs htk hgl hg
    go_wp2_with fail
    refine hS.mono ?_
    rintro e w' ⟨rfl, n, os, rfl⟩
    clear hS
    have hys : (ordN l0_1).length = (List.finRange l0_1.length).length := by unfold ordN; simp
    have HR0 : Kd.R (Kd.int .i64) 3 wr W1.heap.size (fun _ => True) (.slice (some ⟨g, 0, none⟩) (List.finRange l0_1.length).length c3) ((List.finRange l0_1.length).map (fun i => (i.val : Int))) := by
     rw [finR, List.length_finRange]; exact HO.out
    have hfin := ord_out hys HR0 HB.out n os
    rw [List.length_finRange] at hfin
    have HF := Aside0.mk hfin
    clear hfin HR0 hys
    obtain ⟨wz, hwz⟩ : ∃ wz, wz = sortWorld ordE wr g 0 n (ordN l0_1).toArray os := ⟨_, rfl⟩
    have HF2 : Aside0 (Kd.R (Kd.int .i64) 3 wz W1.heap.size (fun _ => True) (.slice (some ⟨g, 0, none⟩) l0_1.length c3) (ordF l0_1) ∧ Below W1.heap.size W1 wz) := ⟨by rw [hwz]; exact HF.out⟩
    clear HF
    rw [show sortWorld ordE wr g 0 n ((List.finRange l0_1.length).mergeSort (fun x y => decide (l0_1[x].f10 ≤ l0_1[y].f10))).toArray os = wz from hwz.symm]
    clear hwz
    go_wp2_with fail
    go_ret
    rw [← HGS.out]
    exact ⟨_, rfl, by rw [← HR.out]; exact Kd.R_lower HF2.out.1 (by have := HZ1.out; omega), below_step HB1.out HF2.out.2⟩
end Go.Proofs.YtefenbhcbpfihaaDoor.Q

-- The tasks by bands, one by one, are the tasks by priority (no program in sight).
namespace Go.Proofs.YtefenbhcbpfihaaDoor.Q
open Go.RowKit Go.Proofs.YtefenbhcbpfihaaDoorW.PrintWords Go.Proofs.YtefenbhcbpfihaaDoorW.PrintLast Go.Proofs.YtefenbhcbpfihaaDoorW.PrintMore
attribute [local go_sem] max2_int min2_int max_two min_two max_three min_three max_four min_four   -- for this text's walks alone
set_option linter.unusedVariables false
set_option linter.unusedSimpArgs false

theorem sorted_unique {α : Type} (k : α → Int) : ∀ l1 l2 : List α, l1.Pairwise (fun x y => k x < k y) → l2.Pairwise (fun x y => k x < k y) → (∀ x, x ∈ l1 ↔ x ∈ l2) → l1 = l2
 | [], [], _, _, _ => rfl
 | [], b :: l2, _, _, h => absurd ((h b).2 List.mem_cons_self) (by simp)
 | a :: l1, [], _, _, h => absurd ((h a).1 List.mem_cons_self) (by simp)
 | a :: l1, b :: l2, h1, h2, h => by
  have g1 := List.pairwise_cons.1 h1
  have g2 := List.pairwise_cons.1 h2
  have e : a = b := by
   rcases List.mem_cons.1 ((h a).1 List.mem_cons_self) with e | e
   ·exact e
   ·rcases List.mem_cons.1 ((h b).2 List.mem_cons_self) with e2 | e2
    ·exact e2.symm
    ·have := g2.1 a e
     have := g1.1 b e2
     omega
  subst e
  congr 1
  refine sorted_unique k l1 l2 g1.2 g2.2 (fun x => ⟨fun hx => ?_, fun hx => ?_⟩)
  ·rcases List.mem_cons.1 ((h x).1 (List.mem_cons_of_mem _ hx)) with e | e
   ·subst e; have := g1.1 x hx; omega
   ·exact e
  ·rcases List.mem_cons.1 ((h x).2 (List.mem_cons_of_mem _ hx)) with e | e
   ·subst e; have := g2.1 x hx; omega
   ·exact e
def keyA (ts : List TK) (i : Nat) : Int := (ts.getD i z39).f10
theorem key_inj (ts : List TK) (hn : (ts.map (fun t => t.f10)).Nodup) (i j : Nat) (hi : i < ts.length) (hj : j < ts.length) (h : keyA ts i = keyA ts j) : i = j := by
 have hp := List.pairwise_iff_getElem.1 hn
 unfold keyA at h
 simp only [List.getD_eq_getElem?_getD, List.getElem?_eq_getElem hi, List.getElem?_eq_getElem hj, Option.getD_some] at h
 rcases Nat.lt_trichotomy i j with g | g | g
 ·have := hp i j (by simpa using hi) (by simpa using hj) g
  simp at this
  exact absurd h this
 ·exact g
 ·have := hp j i (by simpa using hj) (by simpa using hi) g
  simp at this
  exact absurd h.symm this
end Go.Proofs.YtefenbhcbpfihaaDoor.Q

-- The recurrence of chapters 19 and 20, as plain functions: asked again and again, or tried one by one, it has the same least time (no program in sight).
namespace Go.Proofs.YtefenbhcbpfihaaDoor.Q
open Go.RowKit Go.Proofs.YtefenbhcbpfihaaDoorW.PrintWords Go.Proofs.YtefenbhcbpfihaaDoorW.PrintLast Go.Proofs.YtefenbhcbpfihaaDoorW.PrintMore
attribute [local go_sem] max2_int min2_int max_two min_two max_three min_three max_four min_four   -- for this text's walks alone
set_option linter.unusedVariables false
set_option linter.unusedSimpArgs false

/-- The whole demand of a task, and what a fault adds. -/
def wholeF (t : TK) : Int := if t.f9 = 1 then t.f3 + (t.f3 + t.f5 - 1) / t.f5 * t.f6 else t.f3 + t.f6
def extraF (t : TK) : Int := if t.f9 = 1 then t.f5 + t.f6 else t.f4 + t.f6
def ceilF (a b : Int) : Int := (a + b - 1) / b
def mostF (w b g : Int) : Int := if w = 0 then 0 else ceilF (w + b - 1) g
def dearL (p : Int) : List TK → Int → Int
 | [], m => m
 | t :: r, m => dearL p r (if t.f10 ≤ p ∨ t.f9 = 3 then max m (extraF t) else m)
def aheadL (p : Int) : List TK → Int → Int
 | [], m => m
 | t :: r, m => aheadL p r (if p ≤ t.f10 ∧ t.f9 = 3 then max m (extraF t) else m)
def aboveL (p w : Int) : List TK → Int
 | [] => 0
 | t :: r => (if t.f10 < p then ceilF w t.f1 * wholeF t else 0) + aboveL p w r
/-- The recurrence. -/
def nextF (b : Int) (ts : List TK) (t : TK) (g w : Int) : Int := wholeF t + aheadL t.f10 ts 0 + mostF w b g * (b * dearL t.f10 ts 0) + aboveL t.f10 w ts
theorem ceil_mono {a a' b : Int} (hb : 0 < b) (h : a ≤ a') : ceilF a b ≤ ceilF a' b := Int.ediv_le_ediv hb (by omega)
theorem ceil_pos {a b : Int} (hb : 0 < b) (h : 0 ≤ a) : 0 ≤ ceilF a b := Int.ediv_nonneg (by omega) (by omega)
theorem ceil_le {a b : Int} (hb : 0 < b) (h : 0 ≤ a) : ceilF a b ≤ a := by
 unfold ceilF
 by_cases h0 : a = 0
 ·subst h0; rw [Int.ediv_eq_zero_of_lt (by omega) (by omega)]; exact Int.le_refl _
 ·have h1 : (a + b - 1) / b < a + 1 := Int.ediv_lt_of_lt_mul hb (by
   have : (a + 1) * b = a * b + b := by rw [Int.add_mul, Int.one_mul]
   have h2 : a * 1 ≤ a * b := Int.mul_le_mul_of_nonneg_left (by omega) h
   omega)
  omega
/-- How the program rounds up. -/
theorem ceil_go {a b : Int} (hb : 0 < b) (h : 0 ≤ a) : (if a / b * b < a then a / b + 1 else a / b) = ceilF a b := by
 have h1 := Int.emod_add_mul_ediv a b
 have h2 := Int.emod_nonneg a (show b ≠ 0 by omega)
 have h3 := Int.emod_lt_of_pos a hb
 rw [Int.mul_comm] at h1
 unfold ceilF
 obtain ⟨q, hq⟩ : ∃ q, a / b = q := ⟨_, rfl⟩
 obtain ⟨r, hr⟩ : ∃ r, a % b = r := ⟨_, rfl⟩
 rw [hq, hr] at h1
 rw [hr] at h2 h3
 rw [hq]
 have e : ∀ x : Int, 0 ≤ x → x < b → (q * b + x) / b = q := fun x x0 x1 => by
  rw [Int.add_comm, Int.add_mul_ediv_right _ _ (by omega), Int.ediv_eq_zero_of_lt x0 x1, Int.zero_add]
 by_cases h4 : q * b < a
 ·rw [if_pos h4]
  have e2 : a + b - 1 = (q + 1) * b + (r - 1) := by rw [Int.add_mul, Int.one_mul]; omega
  have e3 : ((q + 1) * b + (r - 1)) / b = q + 1 := by
   rw [Int.add_comm, Int.add_mul_ediv_right _ _ (by omega), Int.ediv_eq_zero_of_lt (by omega) (by omega), Int.zero_add]
  rw [e2, e3]
 ·rw [if_neg h4]
  have e2 : a + b - 1 = q * b + (b - 1) := by omega
  rw [e2, e _ (by omega) (by omega)]
theorem most_ref {w b g : Int} (hw : 0 ≤ w) (hb : 1 ≤ b) (hg : 1 ≤ g) : mostF w b g = if w = 0 then 0 else (w + b - 2) / g + 1 := by
 unfold mostF ceilF
 by_cases h : w = 0
 ·rw [if_pos h, if_pos h]
 ·rw [if_neg h, if_neg h, show w + b - 1 + g - 1 = (w + b - 2) + 1 * g by omega, Int.add_mul_ediv_right _ _ (by omega)]
theorem most_mono {w w' b g : Int} (hw : 0 ≤ w) (h : w ≤ w') (hb : 1 ≤ b) (hg : 1 ≤ g) : mostF w b g ≤ mostF w' b g := by
 unfold mostF
 by_cases h0 : w = 0
 ·rw [if_pos h0]
  split
  ·exact Int.le_refl _
  ·exact ceil_pos (by omega) (by omega)
 ·rw [if_neg h0, if_neg (by omega)]
  exact ceil_mono (by omega) (by omega)
theorem most_pos {w b g : Int} (hw : 0 ≤ w) (hb : 1 ≤ b) (hg : 1 ≤ g) : 0 ≤ mostF w b g := by
 unfold mostF
 split
 ·exact Int.le_refl _
 ·exact ceil_pos (by omega) (by omega)
theorem dear_ge (p : Int) : ∀ (l : List TK) (m : Int), m ≤ dearL p l m
 | [], _ => Int.le_refl _
 | t :: r, m => by
  rw [dearL]
  refine Int.le_trans ?_ (dear_ge p r _)
  split <;> omega
theorem ahead_ge (p : Int) : ∀ (l : List TK) (m : Int), m ≤ aheadL p l m
 | [], _ => Int.le_refl _
 | t :: r, m => by
  rw [aheadL]
  refine Int.le_trans ?_ (ahead_ge p r _)
  split <;> omega
theorem dear_le (p B : Int) : ∀ (l : List TK) (m : Int), m ≤ B → (∀ t ∈ l, extraF t ≤ B) → dearL p l m ≤ B
 | [], _, h, _ => h
 | t :: r, m, h, ht => by
  rw [dearL]
  refine dear_le p B r _ ?_ (fun x hx => ht x (List.mem_cons_of_mem _ hx))
  have := ht t List.mem_cons_self
  split <;> omega
theorem ahead_le (p B : Int) : ∀ (l : List TK) (m : Int), m ≤ B → (∀ t ∈ l, extraF t ≤ B) → aheadL p l m ≤ B
 | [], _, h, _ => h
 | t :: r, m, h, ht => by
  rw [aheadL]
  refine ahead_le p B r _ ?_ (fun x hx => ht x (List.mem_cons_of_mem _ hx))
  have := ht t List.mem_cons_self
  split <;> omega
theorem above_mono (p w w' : Int) (h : w ≤ w') : ∀ (l : List TK), (∀ t ∈ l, 0 < t.f1 ∧ 0 ≤ wholeF t) → aboveL p w l ≤ aboveL p w' l
 | [], _ => Int.le_refl _
 | t :: r, ht => by
  rw [aboveL, aboveL]
  have h1 := above_mono p w w' h r (fun x hx => ht x (List.mem_cons_of_mem _ hx))
  have h2 := ht t List.mem_cons_self
  split
  ·have := Int.mul_le_mul_of_nonneg_right (ceil_mono h2.1 h) h2.2
   omega
  ·omega
theorem next_mono {b : Int} {ts : List TK} {t : TK} {g w w' : Int} (hb : 1 ≤ b) (hg : 1 ≤ g) (hw : 0 ≤ w) (h : w ≤ w') (ht : ∀ t ∈ ts, 0 < t.f1 ∧ 0 ≤ wholeF t) : nextF b ts t g w ≤ nextF b ts t g w' := by
 unfold nextF
 have h1 := above_mono t.f10 w w' h ts ht
 have h2 := Int.mul_le_mul_of_nonneg_right (most_mono hw h hb hg) (Int.mul_nonneg (show 0 ≤ b by omega) (dear_ge t.f10 ts 0))
 omega
/-- The least time that the recurrence leaves as it is: asked again and again, with a budget. -/
def respG (F : Int → Int) (D : Int) : Nat → Int → Option (Option Int)
 | 0, _ => none
 | k + 1, w => if F w > D then some none else if F w = w then some (some w) else respG F D k (F w)
/-- The same, tried one by one. -/
def respR (F : Int → Int) (D : Int) : Nat → Int → Option Int
 | 0, _ => none
 | k + 1, w => if w ≤ D then (if F w = w then some w else respR F D k (w + 1)) else none
theorem respR_none (F : Int → Int) (D : Int) : ∀ (k : Nat) (w : Int), (∀ x, w ≤ x → x ≤ D → F x ≠ x) → respR F D k w = none
 | 0, _, _ => rfl
 | k + 1, w, h => by
  rw [respR]
  split
  ·rename_i h1
   rw [if_neg (h w (Int.le_refl _) h1), respR_none F D k (w + 1) (fun x hx => h x (by omega))]
  ·rfl
theorem respR_skip (F : Int → Int) (D : Int) : ∀ (d k : Nat) (w : Int), w + d ≤ D + 1 → (∀ x, w ≤ x → x < w + d → F x ≠ x) → respR F D (k + d) w = respR F D k (w + d)
 | 0, k, w, _, _ => by simp
 | d + 1, k, w, h1, h2 => by
  rw [show k + (d + 1) = (k + d) + 1 by omega, respR, if_pos (by omega), if_neg (h2 w (Int.le_refl _) (by omega)), respR_skip F D d k (w + 1) (by omega) (fun x hx hx2 => h2 x (by omega) (by omega))]
  congr 1
  omega
theorem resp_eq (F : Int → Int) (D : Int) (hm : ∀ a b, 0 ≤ a → a ≤ b → F a ≤ F b) : ∀ (k : Nat) (w : Int), 0 ≤ w → w ≤ D → w ≤ F w → D - w + 1 < k → respG F D k w = some (respR F D k w)
 | 0, w, h0, h1, h2, h3 => by omega
 | k + 1, w, h0, h1, h2, h3 => by
  rw [respG, respR, if_pos h1]
  by_cases hD : F w > D
  ·rw [if_pos hD]
   by_cases hf : F w = w
   ·omega
   ·rw [if_neg hf, respR_none F D k (w + 1) (fun x hx hx2 => by have := hm w x h0 (by omega); omega)]
  ·rw [if_neg hD]
   by_cases hf : F w = w
   ·rw [if_pos hf, if_pos hf]
   ·rw [if_neg hf, if_neg hf]
    have hlt : w < F w := by omega
    rw [resp_eq F D hm k (F w) (by omega) (by omega) (hm w (F w) h0 (by omega)) (by omega)]
    obtain ⟨d, hd⟩ : ∃ d : Nat, (w + 1) + d = F w := ⟨(F w - (w + 1)).toNat, by omega⟩
    have hk : ∀ (j : Nat) (x : Int), D - x + 1 < j → respR F D (j + 1) x = respR F D j x := by
     intro j
     induction j with
     | zero => intro x hx; rw [respR, respR]; rw [if_neg (by omega)]
     | succ j ih =>
      intro x hx
      rw [respR]
      conv => rhs; rw [respR]
      by_cases hxD : x ≤ D
      ·rw [if_pos hxD, if_pos hxD]
       by_cases hfx : F x = x
       ·rw [if_pos hfx, if_pos hfx]
       ·rw [if_neg hfx, if_neg hfx, ih (x + 1) (by omega)]
      ·rw [if_neg hxD, if_neg hxD]
    have hkd : ∀ (d j : Nat) (x : Int), D - x + 1 < j → respR F D (j + d) x = respR F D j x := by
     intro d
     induction d with
     | zero => intro j x _; rfl
     | succ d ih => intro j x hx; rw [show j + (d + 1) = (j + d) + 1 by omega, hk _ _ (by omega), ih j x hx]
    rw [← hkd d k (w + 1) (by omega), respR_skip F D d k (w + 1) (by omega) (fun x hx hx2 => by have := hm w x h0 (by omega); omega), hd]
theorem dear_perm (p : Int) {l1 l2 : List TK} (h : l1.Perm l2) : ∀ m, dearL p l1 m = dearL p l2 m := by
 induction h with
 | nil => intro m; rfl
 | cons x _ ih => intro m; rw [dearL, dearL, ih]
 | swap x y l =>
  intro m
  rw [dearL, dearL, dearL, dearL]
  congr 1
  split <;> split <;> omega
 | trans _ _ h1 h2 => intro m; rw [h1, h2]
theorem ahead_perm (p : Int) {l1 l2 : List TK} (h : l1.Perm l2) : ∀ m, aheadL p l1 m = aheadL p l2 m := by
 induction h with
 | nil => intro m; rfl
 | cons x _ ih => intro m; rw [aheadL, aheadL, ih]
 | swap x y l =>
  intro m
  rw [aheadL, aheadL, aheadL, aheadL]
  congr 1
  split <;> split <;> omega
 | trans _ _ h1 h2 => intro m; rw [h1, h2]
theorem above_perm (p w : Int) {l1 l2 : List TK} (h : l1.Perm l2) : aboveL p w l1 = aboveL p w l2 := by
 induction h with
 | nil => rfl
 | cons x _ ih => rw [aboveL, aboveL, ih]
 | swap x y l => rw [aboveL, aboveL, aboveL, aboveL]; omega
 | trans _ _ h1 h2 => rw [h1, h2]
theorem next_perm (b : Int) {l1 l2 : List TK} (h : l1.Perm l2) (t : TK) (g w : Int) : nextF b l1 t g w = nextF b l2 t g w := by
 unfold nextF
 rw [ahead_perm t.f10 h, dear_perm t.f10 h, above_perm t.f10 w h]
/-- The verdict, task by task in an order. -/
def judgeL (resp : Nat → Option Int) : List Nat → List Int → Bool × Int × List Int
 | [], R => (true, -1, R)
 | i :: r, R => match resp i with
  | some x => judgeL resp r (R.set i x)
  | none => (false, (i : Int), R)
theorem judge_len (resp : Nat → Option Int) : ∀ (l : List Nat) (R : List Int), (judgeL resp l R).2.2.length = R.length
 | [], _ => rfl
 | i :: r, R => by
  rw [judgeL]
  cases resp i with
  | none => rfl
  | some x => simp only []; rw [judge_len resp r]; simp
/-- Places turned by q: the verdict turns with them. -/
theorem judge_turn (f g : Nat → Option Int) (q : Nat → Nat) (n : Nat) (hq : ∀ i j, i < n → j < n → q i = q j → i = j) (hb : ∀ i, i < n → q i < n) : ∀ (l : List Nat) (R S : List Int), (∀ i ∈ l, i < n) → (∀ i, i < n → f i = g (q i)) → R.length = n → S.length = n → (∀ i, i < n → R.getD i 0 = S.getD (q i) 0) →
  (judgeL f l R).1 = (judgeL g (l.map q) S).1 ∧ (∀ i, i < n → (judgeL f l R).2.2.getD i 0 = (judgeL g (l.map q) S).2.2.getD (q i) 0) ∧ ((judgeL f l R).1 = false → ∃ i, i < n ∧ (judgeL f l R).2.1 = (i : Int) ∧ (judgeL g (l.map q) S).2.1 = (q i : Int))
 | [], R, S, _, _, _, _, h => ⟨rfl, h, fun h => by cases h⟩
 | i :: r, R, S, hl, hf, hR, hS, h => by
  have hi := hl i List.mem_cons_self
  rw [List.map_cons, judgeL, judgeL, hf i hi]
  cases hgi : g (q i) with
  | none => exact ⟨rfl, h, fun _ => ⟨i, hi, rfl, rfl⟩⟩
  | some x =>
   refine judge_turn f g q n hq hb r (R.set i x) (S.set (q i) x) (fun j hj => hl j (List.mem_cons_of_mem _ hj)) hf (by simpa using hR) (by simpa using hS) (fun j hj => ?_)
   have hqi := hb i hi
   have hqj := hb j hj
   have h0 := h j hj
   simp only [List.getD_eq_getElem?_getD, List.getElem?_set] at h0 ⊢
   by_cases e : i = j
   ·subst e; simp [hR, hS, hi, hqi]
   ·have e2 : q i ≠ q j := fun e2 => e (hq i j hi hj e2)
    simp [e, e2]; exact h0
/-- What a right task's numbers are. -/
structure Dem (t : TK) : Prop where
 T1 : 1 ≤ t.f1
 T2 : t.f1 ≤ 1048576
 D1 : 1 ≤ t.f2
 D2 : t.f2 ≤ t.f1
 C1 : 1 ≤ t.f3
 C2 : t.f3 ≤ t.f2
 X1 : 0 ≤ t.f6
 X2 : t.f6 ≤ 1000
 M : (t.f9 = 1 ∧ 1 ≤ t.f5 ∧ t.f5 ≤ t.f3 ∧ t.f4 = 0) ∨ ((t.f9 = 2 ∨ t.f9 = 3) ∧ 1 ≤ t.f4 ∧ t.f4 ≤ t.f2 ∧ t.f5 = 0)
theorem dem_of {t : TK} (h1 : tTimed t = true) (h2 : tModed t = true) : Dem t := by
 unfold tTimed inB at h1
 simp only [Bool.and_eq_true, decide_eq_true_eq] at h1
 obtain ⟨⟨⟨⟨a1, a2⟩, b1, b2⟩, c1, c2⟩, d1, d2⟩ := h1
 refine ⟨by omega, by omega, by omega, by omega, by omega, by omega, by omega, by omega, ?_⟩
 unfold tModed inB at h2
 by_cases h : t.f9 = 1
 ·rw [if_pos h] at h2
  simp only [Bool.and_eq_true, decide_eq_true_eq, beq_iff_eq] at h2
  exact .inl ⟨h, by omega, by omega, by omega⟩
 ·rw [if_neg h] at h2
  simp only [Bool.and_eq_true, decide_eq_true_eq, beq_iff_eq] at h2
  exact .inr ⟨by omega, by omega, by omega, by omega⟩
theorem Dem.extra {t : TK} (h : Dem t) : 0 ≤ extraF t ∧ extraF t ≤ 1049576 := by
 obtain ⟨T1, T2, D1, D2, C1, C2, X1, X2, M⟩ := h
 unfold extraF
 split <;> rcases M with ⟨h, _⟩ | ⟨h, _⟩ <;> omega
theorem Dem.parts {t : TK} (h : Dem t) (hm : t.f9 = 1) : 0 ≤ ceilF t.f3 t.f5 ∧ ceilF t.f3 t.f5 ≤ 1048576 ∧ 0 ≤ ceilF t.f3 t.f5 * t.f6 ∧ ceilF t.f3 t.f5 * t.f6 ≤ 1048576000 := by
 obtain ⟨T1, T2, D1, D2, C1, C2, X1, X2, M⟩ := h
 have hs : 0 < t.f5 := by rcases M with ⟨h, _⟩ | ⟨h, _⟩ <;> omega
 have h1 := ceil_pos hs (show 0 ≤ t.f3 by omega)
 have h2 := ceil_le hs (show 0 ≤ t.f3 by omega)
 have h3 : ceilF t.f3 t.f5 * t.f6 ≤ 1048576 * 1000 := Int.mul_le_mul (by omega) X2 X1 (by omega)
 have h4 := Int.mul_nonneg h1 X1
 exact ⟨h1, by omega, h4, by omega⟩
theorem Dem.whole {t : TK} (h : Dem t) : 1 ≤ wholeF t ∧ wholeF t ≤ 1049624576 := by
 unfold wholeF
 by_cases hm : t.f9 = 1
 ·rw [if_pos hm]
  have hp := h.parts hm
  have h1 := h.C1
  have h2 := h.C2
  have h3 := h.D2
  have h4 := h.T2
  have h5 := hp.2.2.1
  have h6 := hp.2.2.2
  unfold ceilF at h5 h6
  omega
 ·rw [if_neg hm]
  have h1 := h.C1
  have h2 := h.C2
  have h3 := h.D2
  have h4 := h.T2
  have h5 := h.X1
  have h6 := h.X2
  omega
theorem above_bound (p w : Int) (hw : 0 ≤ w) (hw2 : w ≤ 1048576) : ∀ (l : List TK), (∀ t ∈ l, Dem t) → 0 ≤ aboveL p w l ∧ aboveL p w l ≤ l.length * 1100611139993600
 | [], _ => by simp [aboveL]
 | t :: r, h => by
  have ih := above_bound p w hw hw2 r (fun x hx => h x (List.mem_cons_of_mem _ hx))
  have ht := h t List.mem_cons_self
  have h1 := ceil_pos (show 0 < t.f1 from by have := ht.T1; omega) hw
  have h2 := ceil_le (show 0 < t.f1 from by have := ht.T1; omega) hw
  have h3 := Int.mul_nonneg h1 (show 0 ≤ wholeF t from by have := ht.whole.1; omega)
  have h4 : ceilF w t.f1 * wholeF t ≤ 1048576 * 1049624576 := Int.mul_le_mul (by omega) ht.whole.2 (by have := ht.whole.1; omega) (by omega)
  rw [aboveL, List.length_cons]
  split <;> omega
theorem most_bound {w b g : Int} (hw : 0 ≤ w) (hw2 : w ≤ 1048576) (hb : 1 ≤ b) (hb2 : b ≤ 1000) (hg : 1 ≤ g) : 0 ≤ mostF w b g ∧ mostF w b g ≤ 1049575 := by
 refine ⟨most_pos hw hb hg, ?_⟩
 unfold mostF
 split
 ·omega
 ·have := ceil_le (show 0 < g by omega) (show 0 ≤ w + b - 1 by omega)
  omega
theorem dear_bound (p : Int) (l : List TK) (h : ∀ t ∈ l, Dem t) : 0 ≤ dearL p l 0 ∧ dearL p l 0 ≤ 1049576 := ⟨dear_ge p l 0, dear_le p _ l 0 (by omega) (fun t ht => (h t ht).extra.2)⟩
theorem ahead_bound (p : Int) (l : List TK) (h : ∀ t ∈ l, Dem t) : 0 ≤ aheadL p l 0 ∧ aheadL p l 0 ≤ 1049576 := ⟨ahead_ge p l 0, ahead_le p _ l 0 (by omega) (fun t ht => (h t ht).extra.2)⟩
theorem add_bound {w b g : Int} (hw : 0 ≤ w) (hw2 : w ≤ 1048576) (hb : 1 ≤ b) (hb2 : b ≤ 1000) (hg : 1 ≤ g) (p : Int) (l : List TK) (h : ∀ t ∈ l, Dem t) : 0 ≤ b * dearL p l 0 ∧ b * dearL p l 0 ≤ 1049576000 ∧ 0 ≤ mostF w b g * (b * dearL p l 0) ∧ mostF w b g * (b * dearL p l 0) ≤ 1101608730200000 := by
 have hd := dear_bound p l h
 have hm := most_bound hw hw2 hb hb2 hg
 have h1 : 0 ≤ b * dearL p l 0 := Int.mul_nonneg (by omega) hd.1
 have h2 : b * dearL p l 0 ≤ 1000 * 1049576 := Int.mul_le_mul hb2 hd.2 hd.1 (by omega)
 have h3 := Int.mul_nonneg hm.1 h1
 have h4 : mostF w b g * (b * dearL p l 0) ≤ 1049575 * 1049576000 := Int.mul_le_mul hm.2 (by omega) h1 (by omega)
 exact ⟨h1, by omega, h3, by omega⟩
theorem next_bound {b : Int} {ts : List TK} {t : TK} {g w : Int} (hb : 1 ≤ b) (hb2 : b ≤ 1000) (hg : 1 ≤ g) (hw : 0 ≤ w) (hw2 : w ≤ 1048576) (h : ∀ t ∈ ts, Dem t) (ht : Dem t) (hl : ts.length ≤ 16) : 1 ≤ nextF b ts t g w ∧ nextF b ts t g w ≤ 20000000000000000 := by
 unfold nextF
 have h1 := ht.whole
 have h2 := ahead_bound t.f10 ts h
 have h3 := add_bound hw hw2 hb hb2 hg t.f10 ts h
 have h4 := above_bound t.f10 w hw hw2 ts h
 omega
end Go.Proofs.YtefenbhcbpfihaaDoor.Q

-- What a right set is, task by task (no program in sight).
namespace Go.Proofs.YtefenbhcbpfihaaDoor.Q
open Go.RowKit Go.Proofs.YtefenbhcbpfihaaDoorW.PrintWords Go.Proofs.YtefenbhcbpfihaaDoorW.PrintLast Go.Proofs.YtefenbhcbpfihaaDoorW.PrintMore
attribute [local go_sem] max2_int min2_int max_two min_two max_three min_three max_four min_four   -- for this text's walks alone
set_option linter.unusedVariables false
set_option linter.unusedSimpArgs false

theorem whyT_zero {t : TK} {a : List TK} : whyT t a = 0 ↔ tNamed t a = true ∧ tTimed t = true ∧ tModed t = true ∧ tFirm t = true ∧ tRanked t a = true := by
 unfold whyT
 cases tNamed t a <;> cases tTimed t <;> cases tModed t <;> cases tFirm t <;> cases tRanked t a <;> simp
theorem whyFrom_zero : ∀ (l a : List TK) (i : Int), (whyFrom l a i).1 = 0 ↔ ∀ j (h : j < l.length), whyT l[j] (a ++ l.take j) = 0
 | [], a, i => by simp [whyFrom]
 | t :: r, a, i => by
  rw [whyFrom]
  by_cases h : whyT t a = 0
  ·rw [if_pos h, whyFrom_zero r (a ++ [t]) (i + 1)]
   constructor
   ·intro hr j hj
    cases j with
    | zero => simpa using h
    | succ j => have := hr j (by simpa using hj); simpa using this
   ·intro hr j hj
    have := hr (j + 1) (by simpa using hj)
    simpa using this
  ·rw [if_neg h]
   constructor
   ·intro h0; exact absurd h0 h
   ·intro hr; have := hr 0 (by simp); exact absurd (by simpa using this) h
/-- A right set. -/
structure RightS (b : Int) (ts : List TK) : Prop where
 b0 : 1 ≤ b
 b1 : b ≤ 1000
 n0 : 1 ≤ ts.length
 n1 : ts.length ≤ 16
 each : ∀ j (h : j < ts.length), whyT ts[j] (ts.take j) = 0
theorem rightS_iff (b : Int) (ts : List TK) : (whyS b ts).1 = 0 ↔ RightS b ts := by
 unfold whyS
 constructor
 ·intro h
  split at h
  ·exact absurd h (by show ¬ (1 : Int) = 0; decide)
  ·rename_i h1
   split at h
   ·exact absurd h (by show ¬ (2 : Int) = 0; decide)
   ·rename_i h2
    unfold inB at h1 h2
    simp at h1 h2
    have := (whyFrom_zero ts [] 0).1 h
    exact ⟨h1.1, h1.2, by omega, by omega, fun j hj => by have := this j hj; simpa using this⟩
 ·intro h
  have h1 := h.b0; have h2 := h.b1; have h3 := h.n0; have h4 := h.n1
  rw [if_neg (by unfold inB; simp; omega), if_neg (by unfold inB; simp; omega)]
  exact (whyFrom_zero ts [] 0).2 (fun j hj => by have := h.each j hj; simpa using this)
/-- What is known of one task. -/
structure RightT (t : TK) : Prop where
 named : named t.f0 = true
 timed : 1 ≤ t.f1 ∧ t.f1 ≤ 1048576 ∧ 1 ≤ t.f2 ∧ t.f2 ≤ t.f1 ∧ 1 ≤ t.f3 ∧ t.f3 ≤ t.f2 ∧ 0 ≤ t.f6 ∧ t.f6 ≤ 1000
 modeA : 1 ≤ t.f9 ∧ t.f9 ≤ 3
 mode1 : t.f9 = 1 → 1 ≤ t.f5 ∧ t.f5 ≤ t.f3 ∧ t.f4 = 0
 mode2 : t.f9 ≠ 1 → 1 ≤ t.f4 ∧ t.f4 ≤ t.f2 ∧ t.f5 = 0
 firm : 1 ≤ t.f8 ∧ t.f8 ≤ 64 ∧ 1 ≤ t.f7 ∧ t.f7 ≤ t.f8
 prio : 0 ≤ t.f10 ∧ t.f10 ≤ 255
theorem rightT_iff {t : TK} {a : List TK} : whyT t a = 0 ↔ RightT t ∧ (∀ x ∈ a, x.f0 ≠ t.f0) ∧ (∀ x ∈ a, x.f10 ≠ t.f10) := by
 have hba : ∀ x y : ByteArray, (x.toList == y.toList) = decide (x = y) := by
  intro x y
  rw [Bool.eq_iff_iff, beq_iff_eq, decide_eq_true_iff, Lib.toList_data, Lib.toList_data]
  constructor
  ·intro h
   cases x; cases y
   simp only [ByteArray.mk.injEq]
   exact Array.ext' h
  ·rintro rfl; rfl
 rw [whyT_zero]
 unfold tNamed tTimed tModed tFirm tRanked inB
 simp only [hba, Bool.and_eq_true, Bool.not_eq_true', List.any_eq_false, decide_eq_true_eq, beq_iff_eq]
 constructor
 ·rintro ⟨⟨h1, h2⟩, ⟨⟨⟨h3, h4⟩, h5⟩, h6⟩, h7, ⟨h8, h9⟩, h10, h11⟩
  by_cases hm : t.f9 = 1
  ·rw [if_pos hm] at h7
   simp only [Bool.and_eq_true, decide_eq_true_eq, beq_iff_eq] at h7
   exact ⟨⟨h1, by omega, by omega, fun _ => by omega, fun h => absurd hm h, by omega, by omega⟩, h2, h11⟩
  ·rw [if_neg hm] at h7
   simp only [Bool.and_eq_true, decide_eq_true_eq, beq_iff_eq] at h7
   exact ⟨⟨h1, by omega, by omega, fun h => absurd h hm, fun _ => by omega, by omega, by omega⟩, h2, h11⟩
 ·rintro ⟨h, h2, h11⟩
  have g1 := h.timed; have g2 := h.modeA; have g3 := h.mode1; have g4 := h.mode2; have g5 := h.firm; have g6 := h.prio
  refine ⟨⟨h.named, h2⟩, by omega, ?_, by omega, by omega, h11⟩
  by_cases hm : t.f9 = 1
  ·have := g3 hm
   rw [if_pos hm]
   simp only [Bool.and_eq_true, decide_eq_true_eq, beq_iff_eq]; omega
  ·have := g4 hm
   rw [if_neg hm]
   simp only [Bool.and_eq_true, decide_eq_true_eq, beq_iff_eq]; omega
theorem RightS.task {b : Int} {ts : List TK} (h : RightS b ts) {t : TK} (ht : t ∈ ts) : RightT t := by
 obtain ⟨j, hj, rfl⟩ := List.mem_iff_getElem.1 ht
 exact (rightT_iff.1 (h.each j hj)).1
theorem RightS.apart {b : Int} {ts : List TK} (h : RightS b ts) (i j : Nat) (hi : i < ts.length) (hj : j < ts.length) (hij : i ≠ j) : ts[i].f0 ≠ ts[j].f0 ∧ ts[i].f10 ≠ ts[j].f10 := by
 have key : ∀ i j (hi : i < ts.length) (hj : j < ts.length), i < j → ts[i].f0 ≠ ts[j].f0 ∧ ts[i].f10 ≠ ts[j].f10 := by
  intro i j hi hj hij
  have h1 := (rightT_iff.1 (h.each j hj)).2
  have hm : ts[i] ∈ ts.take j := by
   rw [List.mem_take_iff_getElem]
   exact ⟨i, by omega, rfl⟩
  exact ⟨h1.1 _ hm, h1.2 _ hm⟩
 rcases Nat.lt_or_gt_of_ne hij with h1 | h1
 ·exact key i j hi hj h1
 ·have := key j i hj hi h1
  exact ⟨fun e => this.1 e.symm, fun e => this.2 e.symm⟩
theorem RightS.nodup {b : Int} {ts : List TK} (h : RightS b ts) : (ts.map (fun t => t.f10)).Nodup := by
 refine List.pairwise_iff_getElem.2 (fun i j hi hj hij => ?_)
 simp only [List.length_map] at hi hj
 simpa using (h.apart i j hi hj (by omega)).2
/-- A right set, told of its tasks. -/
theorem RightS.mk' {b : Int} {ts : List TK} (b0 : 1 ≤ b) (b1 : b ≤ 1000) (n0 : 1 ≤ ts.length) (n1 : ts.length ≤ 16) (ht : ∀ t ∈ ts, RightT t) (hp : ∀ i j (hi : i < ts.length) (hj : j < ts.length), i < j → ts[i].f0 ≠ ts[j].f0 ∧ ts[i].f10 ≠ ts[j].f10) : RightS b ts :=
 ⟨b0, b1, n0, n1, fun j hj => rightT_iff.2 ⟨ht _ (List.getElem_mem hj), fun x hx => by
  obtain ⟨i, hi, rfl⟩ := List.mem_take_iff_getElem.1 hx
  exact (hp i j (by omega) hj (by omega)).1, fun x hx => by
  obtain ⟨i, hi, rfl⟩ := List.mem_take_iff_getElem.1 hx
  exact (hp i j (by omega) hj (by omega)).2⟩⟩
end Go.Proofs.YtefenbhcbpfihaaDoor.Q

-- What an argument of a law is, as its row reads it: a set, a slice of numbers, of structs (no program in sight but its types).
namespace Go.Proofs.YtefenbhcbpfihaaDoor.Q
open Go.RowKit Go.Proofs.YtefenbhcbpfihaaDoorW.PrintWords Go.Proofs.YtefenbhcbpfihaaDoorW.PrintLast Go.Proofs.YtefenbhcbpfihaaDoorW.PrintMore
attribute [local go_sem] max2_int min2_int max_two min_two max_three min_three max_four min_four   -- for this text's walks alone
set_option linter.unusedVariables false
set_option linter.unusedSimpArgs false

set_option maxRecDepth 100000
section
open Go.ChangeShapes Go.WideShapes Go.Deep
variable {H : Type} {enc : TypeId × Value → H} {base : Nat} {spare : Nat → Bool} {held : Bool}
theorem pick_list {α : Type} (Q : Nat → α → Prop) : ∀ n : Nat, (∀ i, i < n → ∃ a, Q i a) → ∃ l : List α, l.length = n ∧ ∀ i p, l[i]? = some p → Q i p
 | 0, _ => ⟨[], rfl, fun i p h => by simp at h⟩
 | n + 1, h => by
  obtain ⟨l, hl, hq⟩ := pick_list Q n (fun i hi => h i (by omega))
  obtain ⟨a, ha⟩ := h n (by omega)
  refine ⟨l ++ [a], by simp [hl], fun i p hp => ?_⟩
  by_cases hi : i < n
  ·rw [List.getElem?_append_left (by omega)] at hp; exact hq i p hp
  ·rw [List.getElem?_append_right (by omega)] at hp
   have : i - l.length = 0 := by
    rcases Nat.eq_zero_or_pos (i - l.length) with h | h
    ·exact h
    ·rw [List.getElem?_eq_none (by simp; omega)] at hp; cases hp
   rw [this] at hp
   simp at hp
   have : i = n := by omega
   subst this; subst hp; exact ha
theorem op_slice {P : Program} {w : World} {α : Type} (d : Kd α) (ok : α → Prop) {t e : TypeId} (ht : P.underlying t = some (.slice e)) (hc : P.cellsOf e = d.sz) (ho : ∀ {fuel : Nat} {cs : List Value} {x : DataW H × List MemPlace}, DataW.trod enc P w base spare held fuel e cs = some x → ∃ a, d.K w a cs ∧ ok a)
  {fuel : Nat} {cs : List Value} {x : DataW H × List MemPlace} (h : DataW.trod enc P w base spare held fuel t cs = some x) : ∃ (A : Option Addr) (c : Nat) (l : List α), cs = [.slice A l.length c] ∧ d.C w A l.length l ∧ l.length ≤ c ∧ (∀ a ∈ l, ok a) ∧ c ≤ maxLen := by
 rcases open_slice ht h with ⟨h0, -⟩ | ⟨a, len, cap, m, n, D, Pl, hcs, hb, hl, hm, hmm, -, hi⟩
 ·exact ⟨none, 0, [], h0, Kd.C_nil _ _, Nat.le_refl _, fun a h => (by cases h), Nat.zero_le _⟩
 ·have hlm : len ≤ m := by rw [hmm]; split <;> omega
  have hml : maxLen = 9223372036854775807 := rfl
  obtain ⟨l, hll, hq⟩ := pick_list (fun i (p : α) => ok p ∧ ∃ c : List Value, c.length = d.sz ∧ d.K w p c ∧ ∀ j u, c[j]? = some u → w.cell? (a.add (i * d.sz + j)) = some u) len (fun i hin => by
   obtain ⟨cs', hcc, htt⟩ := hi i (by omega)
   obtain ⟨p, hK, hok⟩ := ho htt
   rw [hc] at hcc
   obtain ⟨_, hcl, hat⟩ := World.cells?_some hcc
   refine ⟨p, hok, cs', hcl, hK, fun j u hu => ?_⟩
   have hj : j < d.sz := by rw [← hcl]; exact (List.getElem?_eq_some_iff.1 hu).1
   rw [← Go.Deep.add_add, hat j hj]; exact hu)
  subst hll
  refine ⟨some a, cap, l, hcs, ⟨rfl, by omega, fun _ => ⟨a, rfl, fun j p hp => (hq j p hp).2⟩⟩, hl, fun p hp => ?_, hm⟩
  obtain ⟨j, hj, rfl⟩ := List.mem_iff_getElem.1 hp
  exact (hq j _ (List.getElem?_eq_getElem hj)).1
def okTask (t : S39) : Prop := (Lit.int .i64 t.f1).wf = true ∧ (Lit.int .i64 t.f2).wf = true ∧ (Lit.int .i64 t.f3).wf = true ∧ (Lit.int .i64 t.f4).wf = true ∧ (Lit.int .i64 t.f5).wf = true ∧ (Lit.int .i64 t.f6).wf = true ∧ (Lit.int .i64 t.f7).wf = true ∧ (Lit.int .i64 t.f8).wf = true ∧ (Lit.int .i64 t.f9).wf = true ∧ (Lit.int .i64 t.f10).wf = true ∧ t.f0.size ≤ maxLen
theorem op_Task {w : World} {fuel : Nat} {cs : List Value} {x : DataW H × List MemPlace} (h : DataW.trod enc Tryd.prog w base spare held fuel 39 cs = some x) : ∃ t : S39, (k39).K w t cs ∧ okTask t := by
 obtain ⟨xs, n, -, -, hlen, hxl, hf⟩ := DataW.trod_struct Tryd.underlying39 h
 rw [show Tryd.prog.cellsOf 39 = 11 by kernel_rfl] at hlen
 have hx : xs.length = 11 := hxl
 obtain ⟨c0, c1, c2, c3, c4, c5, c6, c7, c8, c9, c10, rfl⟩ : ∃ c0 c1 c2 c3 c4 c5 c6 c7 c8 c9 c10, cs = [c0, c1, c2, c3, c4, c5, c6, c7, c8, c9, c10] := by
  match cs, hlen with
  | [c0, c1, c2, c3, c4, c5, c6, c7, c8, c9, c10], _ => exact ⟨_, _, _, _, _, _, _, _, _, _, _, rfl⟩
 have g0 := hf 0 _ rfl
 rw [List.getElem?_eq_getElem (by omega)] at g0
 obtain ⟨v0, e0, -, w0⟩ := DataW.trod_string Tryd.underlying9 g0
 have e0 : [c0] = [.string v0] := e0
 cases e0
 have g1 := hf 1 _ rfl
 rw [List.getElem?_eq_getElem (by omega)] at g1
 obtain ⟨v1, e1, -, w1⟩ := DataW.trod_int Tryd.underlying3 g1
 have e1 : [c1] = [.int .i64 v1] := e1
 cases e1
 have g2 := hf 2 _ rfl
 rw [List.getElem?_eq_getElem (by omega)] at g2
 obtain ⟨v2, e2, -, w2⟩ := DataW.trod_int Tryd.underlying3 g2
 have e2 : [c2] = [.int .i64 v2] := e2
 cases e2
 have g3 := hf 3 _ rfl
 rw [List.getElem?_eq_getElem (by omega)] at g3
 obtain ⟨v3, e3, -, w3⟩ := DataW.trod_int Tryd.underlying3 g3
 have e3 : [c3] = [.int .i64 v3] := e3
 cases e3
 have g4 := hf 4 _ rfl
 rw [List.getElem?_eq_getElem (by omega)] at g4
 obtain ⟨v4, e4, -, w4⟩ := DataW.trod_int Tryd.underlying3 g4
 have e4 : [c4] = [.int .i64 v4] := e4
 cases e4
 have g5 := hf 5 _ rfl
 rw [List.getElem?_eq_getElem (by omega)] at g5
 obtain ⟨v5, e5, -, w5⟩ := DataW.trod_int Tryd.underlying3 g5
 have e5 : [c5] = [.int .i64 v5] := e5
 cases e5
 have g6 := hf 6 _ rfl
 rw [List.getElem?_eq_getElem (by omega)] at g6
 obtain ⟨v6, e6, -, w6⟩ := DataW.trod_int Tryd.underlying3 g6
 have e6 : [c6] = [.int .i64 v6] := e6
 cases e6
 have g7 := hf 7 _ rfl
 rw [List.getElem?_eq_getElem (by omega)] at g7
 obtain ⟨v7, e7, -, w7⟩ := DataW.trod_int Tryd.underlying3 g7
 have e7 : [c7] = [.int .i64 v7] := e7
 cases e7
 have g8 := hf 8 _ rfl
 rw [List.getElem?_eq_getElem (by omega)] at g8
 obtain ⟨v8, e8, -, w8⟩ := DataW.trod_int Tryd.underlying3 g8
 have e8 : [c8] = [.int .i64 v8] := e8
 cases e8
 have g9 := hf 9 _ rfl
 rw [List.getElem?_eq_getElem (by omega)] at g9
 obtain ⟨v9, e9, -, w9⟩ := DataW.trod_int Tryd.underlying3 g9
 have e9 : [c9] = [.int .i64 v9] := e9
 cases e9
 have g10 := hf 10 _ rfl
 rw [List.getElem?_eq_getElem (by omega)] at g10
 obtain ⟨v10, e10, -, w10⟩ := DataW.trod_int Tryd.underlying3 g10
 have e10 : [c10] = [.int .i64 v10] := e10
 cases e10
 exact ⟨⟨v0, v1, v2, v3, v4, v5, v6, v7, v8, v9, v10⟩, k39_mk w _, w1, w2, w3, w4, w5, w6, w7, w8, w9, w10, w0⟩
/-- A set by value. -/
theorem op_set {w : World} {r : Reach} {b0 : Nat} {v : Value} {d : DataW H} {ps : List MemPlace} (hv : Value.okWide Tryd.prog w r b0 24 v) (h : DataW.Trod enc Tryd.prog w base spare held 24 v d ps) :
  ∃ (b : Int) (A : Option Addr) (c : Nat) (ts : List TK), v = .agg #[.int .i64 b, .slice A ts.length c] ∧ Kd.C k39 w A ts.length ts ∧ ts.length ≤ c ∧ (∀ t ∈ ts, okTask t) ∧ (Lit.int .i64 b).wf = true := by
 obtain ⟨cs, rfl, hsz⟩ := okWide_struct Tryd.underlying24 hv
 obtain ⟨fuel, h⟩ := h
 obtain ⟨xs, n, -, -, hlen, hxl, hf⟩ := DataW.trod_struct Tryd.underlying24 h
 have hx : xs.length = 2 := hxl
 have hc2 : cs.size = 2 := hsz.trans (by kernel_rfl)
 obtain ⟨c0, c1, rfl⟩ : ∃ c0 c1, cs = #[c0, c1] := by
  obtain ⟨l⟩ := cs
  match l, hc2 with
  | [c0, c1], _ => exact ⟨_, _, rfl⟩
 have g0 := hf 0 _ rfl
 rw [List.getElem?_eq_getElem (by omega)] at g0
 obtain ⟨b, e0, -, w0⟩ := DataW.trod_int Tryd.underlying3 g0
 have e0 : [c0] = [.int .i64 b] := e0
 cases e0
 have g1 := hf 1 _ rfl
 rw [List.getElem?_eq_getElem (by omega)] at g1
 obtain ⟨A, c, ts, e1, hC, hc, hok, -⟩ := op_slice k39 okTask Tryd.underlying22 (by kernel_rfl) op_Task g1
 have e1 : [c1] = [.slice A ts.length c] := e1
 cases e1
 exact ⟨b, A, c, ts, rfl, hC, hc, hok, w0⟩
end
end Go.Proofs.YtefenbhcbpfihaaDoor.Q

-- Written for this claim by the session's own driver (wip/qprint.py) over the kit's printer, out of the translation. Not trusted: Lean checks it.
namespace Go.Proofs.YtefenbhcbpfihaaDoor.Q
open Go.RowKit Go.Proofs.YtefenbhcbpfihaaDoorW.PrintWords Go.Proofs.YtefenbhcbpfihaaDoorW.PrintLast Go.Proofs.YtefenbhcbpfihaaDoorW.PrintMore
attribute [local go_sem] max2_int min2_int max_two min_two max_three min_three max_four min_four   -- for this text's walks alone
set_option linter.unusedVariables false
set_option linter.unusedSimpArgs false

theorem eqA39 (d : Nat) (w : World) (x0 y0 : ByteArray) (x1 y1 : Int) (x2 y2 : Int) (x3 y3 : Int) (x4 y4 : Int) (x5 y5 : Int) (x6 y6 : Int) (x7 y7 : Int) (x8 y8 : Int) (x9 y9 : Int) (x10 y10 : Int) :
  (Op.equalIn (d + 2) 39 (.agg #[.string x0, .int .i64 x1, .int .i64 x2, .int .i64 x3, .int .i64 x4, .int .i64 x5, .int .i64 x6, .int .i64 x7, .int .i64 x8, .int .i64 x9, .int .i64 x10]) (.agg #[.string y0, .int .i64 y1, .int .i64 y2, .int .i64 y3, .int .i64 y4, .int .i64 y5, .int .i64 y6, .int .i64 y7, .int .i64 y8, .int .i64 y9, .int .i64 y10])).run Tryd.prog w = .ok (x0.toList == y0.toList && (x1 == y1 && (x2 == y2 && (x3 == y3 && (x4 == y4 && (x5 == y5 && (x6 == y6 && (x7 == y7 && (x8 == y8 && (x9 == y9 && (x10 == y10))))))))))) w := by
 refine eqA_of Tryd.underlying39 (by kernel_rfl) ?_
 refine eqf_cons (by rfl) (by go_simp; rfl) (by go_simp; rfl) (by go_simp) ?_
 refine eqf_cons (by rfl) (by go_simp; rfl) (by go_simp; rfl) (by go_simp) ?_
 refine eqf_cons (by rfl) (by go_simp; rfl) (by go_simp; rfl) (by go_simp) ?_
 refine eqf_cons (by rfl) (by go_simp; rfl) (by go_simp; rfl) (by go_simp) ?_
 refine eqf_cons (by rfl) (by go_simp; rfl) (by go_simp; rfl) (by go_simp) ?_
 refine eqf_cons (by rfl) (by go_simp; rfl) (by go_simp; rfl) (by go_simp) ?_
 refine eqf_cons (by rfl) (by go_simp; rfl) (by go_simp; rfl) (by go_simp) ?_
 refine eqf_cons (by rfl) (by go_simp; rfl) (by go_simp; rfl) (by go_simp) ?_
 refine eqf_cons (by rfl) (by go_simp; rfl) (by go_simp; rfl) (by go_simp) ?_
 refine eqf_cons (by rfl) (by go_simp; rfl) (by go_simp; rfl) (by go_simp) ?_
 exact eqf_last (by rfl) (by go_simp; rfl) (by go_simp; rfl) (by go_simp)
end Go.Proofs.YtefenbhcbpfihaaDoor.Q

-- Written for this claim by the session's own driver (wip/qprint.py) over the kit's printer, out of the translation. Not trusted: Lean checks it.
namespace Go.Proofs.YtefenbhcbpfihaaDoor.Q
open Go.RowKit Go.Proofs.YtefenbhcbpfihaaDoorW.PrintWords Go.Proofs.YtefenbhcbpfihaaDoorW.PrintLast Go.Proofs.YtefenbhcbpfihaaDoorW.PrintMore
attribute [local go_sem] max2_int min2_int max_two min_two max_three min_three max_four min_four   -- for this text's walks alone
set_option linter.unusedVariables false
set_option linter.unusedSimpArgs false

/-! ### tick_time: function 58 -/
def tick_time.f (a0 : Int) : Option (Bool) := if a0 ≥ 0 then (some (decide (a0 ≤ 4611686018427387904))) else (some false)
set_option maxHeartbeats 8000000 in
set_option maxRecDepth 100000 in
theorem tick_time.calls (a0 : Int) (r : Bool) (w : World) (h : tick_time.f a0 = some r) :
  Calls Tryd.prog 58 #[.int .i64 a0] w fun e w' => e = .returned (.bool r) ∧ Drawn0 w w' := by
 have H : (if a0 ≥ 0 then (some (decide (a0 ≤ 4611686018427387904))) else (some false)) = some r := h
 clear h
 by_cases c2 : a0 ≥ 0
 ·rw [if_pos c2] at H
  have c2b0 : decide (0 ≤ a0) = true := decide_eq_true c2
  clear c2
  obtain rfl := Option.some.inj H
  go_enter Tryd.func58, Tryd.ntmps58
  go_wp2
  go_ret
  exact ⟨by first | rfl | (simp; done) | (simp [*]; done), by repeat (first | exact Drawn0.refl _ | apply Drawn0.step)⟩
 ·rw [if_neg c2] at H
  have c2b0 : decide (0 ≤ a0) = false := decide_eq_false c2
  clear c2
  obtain rfl := Option.some.inj H
  go_enter Tryd.func58, Tryd.ntmps58
  go_wp2
  go_ret
  exact ⟨by first | rfl | (simp; done) | (simp [*]; done), by repeat (first | exact Drawn0.refl _ | apply Drawn0.step)⟩

/-! ### tick_Ceil: function 42 -/
def tick_Ceil.j0 : Nat → Int → Int → Bool → Option (Int × Bool)
 | 0, _, _, _ => none
 | k + 1, x0, x1, x18 => if x18 = true then (some (0, false)) else (if x1 = 0 then (none) else (if (wrap64 ((wrap64 (Int.tdiv x0 x1)) * x1)) < x0 then (some (wrap64 ((wrap64 (Int.tdiv x0 x1)) + 1), true)) else (some (wrap64 (Int.tdiv x0 x1), true))))
def tick_Ceil.f (k : Nat) (a0 : Int) (a1 : Int) : Option (Int × Bool) := (tick_time.f a0).bind fun t124 => (if t124 = true then ((tick_time.f a1).bind fun t125 => (if t125 = true then (tick_Ceil.j0 k a0 a1 (a1 == 0)) else (tick_Ceil.j0 k a0 a1 true))) else (tick_Ceil.j0 k a0 a1 true))
theorem tick_Ceil.mono_l : ∀ k, (∀ y0 y1 y2, LeO (tick_Ceil.j0 k y0 y1 y2) (tick_Ceil.j0 (k + 1) y0 y1 y2))
 | 0 => fun _ _ _ r h => by simp [tick_Ceil.j0] at h
 | k + 1 => by
  have ih0 := tick_Ceil.mono_l k
  ·intro y0 y1 y2
   unfold tick_Ceil.j0
   repeat' first
   | (with_reducible exact ih0 _ _ _)
   | (with_reducible exact LeO.refl _)
   | (with_reducible exact LeO.none _)
   | (with_reducible refine LeO.ite ?_ ?_)
   | (with_reducible refine LeO.bind ?_ (fun _ => ?_))
   | exact ih0 _ _ _
   | exact LeO.none _
   | refine LeO.ite ?_ ?_
   | refine LeO.bind ?_ (fun _ => ?_)
theorem tick_Ceil.mono : ∀ a0 a1 k, LeO (tick_Ceil.f k a0 a1) (tick_Ceil.f (k + 1) a0 a1) := by
 intro a0 a1 k
 have ih0 := tick_Ceil.mono_l k
 unfold tick_Ceil.f
 repeat' first
   | (with_reducible exact ih0 _ _ _)
   | (with_reducible exact LeO.refl _)
   | (with_reducible exact LeO.none _)
   | (with_reducible refine LeO.ite ?_ ?_)
   | (with_reducible refine LeO.bind ?_ (fun _ => ?_))
   | exact ih0 _ _ _
   | exact LeO.none _
   | refine LeO.ite ?_ ?_
   | refine LeO.bind ?_ (fun _ => ?_)
set_option maxHeartbeats 8000000 in
set_option maxRecDepth 100000 in
theorem tick_Ceil.calls (k : Nat) (a0 : Int) (a1 : Int) (r1 : Int) (r2 : Bool) (w : World) (h : tick_Ceil.f k a0 a1 = some (r1, r2)) :
  Calls Tryd.prog 42 #[.int .i64 a0, .int .i64 a1] w fun e w' => e = .returned (.tuple #[.int .i64 r1, .bool r2]) ∧ Drawn0 w w' := by
 have H : ((tick_time.f a0).bind fun t124 => (if t124 = true then ((tick_time.f a1).bind fun t125 => (if t125 = true then (tick_Ceil.j0 k a0 a1 (a1 == 0)) else (tick_Ceil.j0 k a0 a1 true))) else (tick_Ceil.j0 k a0 a1 true))) = some (r1, r2) := h
 clear h
 have HC3 := Aside0.mk H
 clear H
 go_enter Tryd.func42, Tryd.ntmps42
 go_upto_region 1 with (fail)
 go_cut [18] (fun v18 wc => ∃ (kq : Nat) (x18_2 : Bool), v18 = .bool x18_2 ∧ Aside0 (tick_Ceil.j0 kq a0 a1 x18_2 = some (r1, r2)) ∧ Aside0 (kq ≤ k) ∧ Drawn0 w wc)
 case first =>
  have H := HC3.out
  clear HC3
  replace H := Option.bind_eq_some_iff.mp H
  obtain ⟨t124, A40, H⟩ := H
  replace H : (if t124 = true then ((tick_time.f a1).bind fun t125 => (if t125 = true then (tick_Ceil.j0 k a0 a1 (a1 == 0)) else (tick_Ceil.j0 k a0 a1 true))) else (tick_Ceil.j0 k a0 a1 true)) = some (r1, r2) := H
  have A4 := Aside0.mk A40
  clear A40
  by_cases c5 : t124 = true
  ·subst c5
   have H1 : ((tick_time.f a1).bind fun t125 => (if t125 = true then (tick_Ceil.j0 k a0 a1 (a1 == 0)) else (tick_Ceil.j0 k a0 a1 true))) = some (r1, r2) := by rw [if_pos rfl] at H; exact H
   clear H
   have H := H1
   clear H1
   replace H := Option.bind_eq_some_iff.mp H
   obtain ⟨t125, A60, H⟩ := H
   replace H : (if t125 = true then (tick_Ceil.j0 k a0 a1 (a1 == 0)) else (tick_Ceil.j0 k a0 a1 true)) = some (r1, r2) := H
   have A6 := Aside0.mk A60
   clear A60
   by_cases c7 : t125 = true
   ·subst c7
    have H1 : (tick_Ceil.j0 k a0 a1 (a1 == 0)) = some (r1, r2) := by rw [if_pos rfl] at H; exact H
    clear H
    have H := H1
    clear H1
    have H' := Aside0.mk H
    clear H
    go_wp2_with (first | ((with_reducible refine gate_callee (f := 58) rfl ?_); refine goesL_ (some 8) rfl rfl Tryd.func58 (by kernel_rfl) rfl #[.int .i64 a0] rfl (by (try simp only [List.map_toArray, List.map_cons, List.map_nil]); first | done | rfl | (simp only [List.length_drop, List.length_take]; rfl)) ?_; (with_reducible refine (tick_time.calls a0 true _ A4.out).mono ?_); rintro e w' ⟨rfl, ⟨nd, rfl⟩⟩; refine ⟨_, rfl, ?_⟩; (try clear A4)) | (go_at_call 58; (with_reducible refine (tick_time.calls a1 true _ A6.out).mono ?_); rintro e w' ⟨rfl, ⟨nd, rfl⟩⟩))
    go_meet
    case rel => exact ⟨_, ((a1 == 0)), (by first | rfl | (simp; done) | (simp [*]; done)), H', ⟨by first | omega | exact Nat.le_refl _⟩, by repeat (first | exact Drawn0.refl _ | apply Drawn0.step)⟩
   ·replace c7 := Bool.eq_false_iff.mpr c7
    subst c7
    have H1 : (tick_Ceil.j0 k a0 a1 true) = some (r1, r2) := by rw [if_neg (show ¬ (false = true) by decide)] at H; exact H
    clear H
    have H := H1
    clear H1
    have H' := Aside0.mk H
    clear H
    go_wp2_with (first | ((with_reducible refine gate_callee (f := 58) rfl ?_); refine goesL_ (some 8) rfl rfl Tryd.func58 (by kernel_rfl) rfl #[.int .i64 a0] rfl (by (try simp only [List.map_toArray, List.map_cons, List.map_nil]); first | done | rfl | (simp only [List.length_drop, List.length_take]; rfl)) ?_; (with_reducible refine (tick_time.calls a0 true _ A4.out).mono ?_); rintro e w' ⟨rfl, ⟨nd, rfl⟩⟩; refine ⟨_, rfl, ?_⟩; (try clear A4)) | (go_at_call 58; (with_reducible refine (tick_time.calls a1 false _ A6.out).mono ?_); rintro e w' ⟨rfl, ⟨nd, rfl⟩⟩))
    go_meet
    case rel => exact ⟨_, (true), (by first | rfl | (simp; done) | (simp [*]; done)), H', ⟨by first | omega | exact Nat.le_refl _⟩, by repeat (first | exact Drawn0.refl _ | apply Drawn0.step)⟩
  ·replace c5 := Bool.eq_false_iff.mpr c5
   subst c5
   have H1 : (tick_Ceil.j0 k a0 a1 true) = some (r1, r2) := by rw [if_neg (show ¬ (false = true) by decide)] at H; exact H
   clear H
   have H := H1
   clear H1
   have H' := Aside0.mk H
   clear H
   go_wp2_with (first | ((with_reducible refine gate_callee (f := 58) rfl ?_); refine goesL_ (some 8) rfl rfl Tryd.func58 (by kernel_rfl) rfl #[.int .i64 a0] rfl (by (try simp only [List.map_toArray, List.map_cons, List.map_nil]); first | done | rfl | (simp only [List.length_drop, List.length_take]; rfl)) ?_; (with_reducible refine (tick_time.calls a0 false _ A4.out).mono ?_); rintro e w' ⟨rfl, ⟨nd, rfl⟩⟩; refine ⟨_, rfl, ?_⟩))
   go_meet
   case rel => exact ⟨_, (true), (by first | rfl | (simp; done) | (simp [*]; done)), H', ⟨by first | omega | exact Nat.le_refl _⟩, by repeat (first | exact Drawn0.refl _ | apply Drawn0.step)⟩
 case rest =>
  clear HC3
  try clear p2
  try clear c4
  try clear c5
  try clear c7
  obtain ⟨kq, x18_2, rfl, HA, HJ2, ⟨mc2, rfl⟩⟩ := hcut
  cases kq with
  | zero => exact absurd HA.out (by simp [tick_Ceil.j0])
  | succ kj2 =>
   have H := HA.out
   clear HA
   simp only [tick_Ceil.j0] at H
   by_cases c8 : x18_2 = true
   ·subst c8
    have H1 : (some (0, false)) = some (r1, r2) := by rw [if_pos rfl] at H; exact H
    clear H
    have H := H1
    clear H1
    simp only [Option.some.injEq, Prod.mk.injEq] at H
    obtain ⟨rfl, rfl⟩ := H
    go_wp2
    go_ret2
    exact ⟨by first | rfl | (simp; done) | (simp [*]; done), by repeat (first | exact Drawn0.refl _ | apply Drawn0.step)⟩
   ·replace c8 := Bool.eq_false_iff.mpr c8
    subst c8
    have H1 : (if a1 = 0 then (none) else (if (wrap64 ((wrap64 (Int.tdiv a0 a1)) * a1)) < a0 then (some (wrap64 ((wrap64 (Int.tdiv a0 a1)) + 1), true)) else (some (wrap64 (Int.tdiv a0 a1), true)))) = some (r1, r2) := by rw [if_neg (show ¬ (false = true) by decide)] at H; exact H
    clear H
    have H := H1
    clear H1
    by_cases c9 : a1 = 0
    ·rw [if_pos c9] at H
     exact absurd H (by simp)
    ·rw [if_neg c9] at H
     have c9b0 : (a1 == 0) = false := beq_eq_false_iff_ne.mpr c9
     have c9b1 : (a1 != 0) = true := bne_iff_ne.mpr c9
     by_cases c10 : (wrap64 ((wrap64 (Int.tdiv a0 a1)) * a1)) < a0
     ·rw [if_pos c10] at H
      have c10b0 : decide ((wrap64 ((wrap64 (Int.tdiv a0 a1)) * a1)) < a0) = true := decide_eq_true c10
      clear c10
      simp only [Option.some.injEq, Prod.mk.injEq] at H
      obtain ⟨rfl, rfl⟩ := H
      go_wp2
      go_ret2
      exact ⟨by first | rfl | (simp; done) | (simp [*]; done), by repeat (first | exact Drawn0.refl _ | apply Drawn0.step)⟩
     ·rw [if_neg c10] at H
      have c10b0 : decide ((wrap64 ((wrap64 (Int.tdiv a0 a1)) * a1)) < a0) = false := decide_eq_false c10
      clear c10
      simp only [Option.some.injEq, Prod.mk.injEq] at H
      obtain ⟨rfl, rfl⟩ := H
      go_wp2
      go_ret2
      exact ⟨by first | rfl | (simp; done) | (simp [*]; done), by repeat (first | exact Drawn0.refl _ | apply Drawn0.step)⟩

/-! ### demand_Whole: function 36 -/
def demand_Whole.f (k : Nat) (a0_0 : ByteArray) (a0_1 : Int) (a0_2 : Int) (a0_3 : Int) (a0_4 : Int) (a0_5 : Int) (a0_6 : Int) (a0_7 : Int) (a0_8 : Int) (a0_9 : Int) (a0_10 : Int) : Option (Int) := if a0_9 = 1 then ((tick_Ceil.f k a0_3 a0_5).bind fun bt127 => (some (wrap64 (a0_3 + (wrap64 (bt127.1 * a0_6)))))) else (some (wrap64 (a0_3 + a0_6)))
theorem demand_Whole.mono : ∀ a0 a1 a2 a3 a4 a5 a6 a7 a8 a9 a10 k, LeO (demand_Whole.f k a0 a1 a2 a3 a4 a5 a6 a7 a8 a9 a10) (demand_Whole.f (k + 1) a0 a1 a2 a3 a4 a5 a6 a7 a8 a9 a10) := by
 intro a0 a1 a2 a3 a4 a5 a6 a7 a8 a9 a10 k
 unfold demand_Whole.f
 repeat' first
   | (with_reducible exact tick_Ceil.mono _ _ _)
   | (with_reducible exact LeO.refl _)
   | (with_reducible exact LeO.none _)
   | (with_reducible refine LeO.ite ?_ ?_)
   | (with_reducible refine LeO.bind ?_ (fun _ => ?_))
   | exact tick_Ceil.mono _ _ _
   | exact LeO.none _
   | refine LeO.ite ?_ ?_
   | refine LeO.bind ?_ (fun _ => ?_)
set_option maxHeartbeats 8000000 in
set_option maxRecDepth 100000 in
theorem demand_Whole.calls (k : Nat) (a0_0 : ByteArray) (a0_1 : Int) (a0_2 : Int) (a0_3 : Int) (a0_4 : Int) (a0_5 : Int) (a0_6 : Int) (a0_7 : Int) (a0_8 : Int) (a0_9 : Int) (a0_10 : Int) (r : Int) (w : World) (h : demand_Whole.f k a0_0 a0_1 a0_2 a0_3 a0_4 a0_5 a0_6 a0_7 a0_8 a0_9 a0_10 = some r) :
  Calls Tryd.prog 36 #[.agg #[.string a0_0, .int .i64 a0_1, .int .i64 a0_2, .int .i64 a0_3, .int .i64 a0_4, .int .i64 a0_5, .int .i64 a0_6, .int .i64 a0_7, .int .i64 a0_8, .int .i64 a0_9, .int .i64 a0_10]] w fun e w' => e = .returned (.int .i64 r) ∧ Below w.heap.size w w' := by
 have hu39 := Tryd.underlying39
 have HB := Aside0.mk (Below.refl w.heap.size w)
 have H : (if a0_9 = 1 then ((tick_Ceil.f k a0_3 a0_5).bind fun bt127 => (some (wrap64 (a0_3 + (wrap64 (bt127.1 * a0_6)))))) else (some (wrap64 (a0_3 + a0_6)))) = some r := h
 clear h
 by_cases c2 : a0_9 = 1
 ·rw [if_pos c2] at H
  have c2b0 : (a0_9 == 1) = true := beq_iff_eq.mpr c2
  have c2b1 : (a0_9 != 1) = false := bne_eq_false_iff_eq.mpr c2
  clear c2
  replace H := Option.bind_eq_some_iff.mp H
  obtain ⟨⟨t127, t128⟩, A30, H⟩ := H
  replace H : (some (wrap64 (a0_3 + (wrap64 (t127 * a0_6))))) = some r := H
  have A3 := Aside0.mk A30
  clear A30
  obtain rfl := Option.some.inj H
  go_enter Tryd.func36, Tryd.ntmps36
  go_wp2_with (first | ((with_reducible refine gate_dst (N := 1) rfl ?_); refine box_event ?hg (N := 1) ?hd (cs := #[.string a0_0, .int .i64 a0_1, .int .i64 a0_2, .int .i64 a0_3, .int .i64 a0_4, .int .i64 a0_5, .int .i64 a0_6, .int .i64 a0_7, .int .i64 a0_8, .int .i64 a0_9, .int .i64 a0_10]) (t := 39) ?hr ?_; (case hd => rfl); (case hg => rfl); (case hr => first | (go_simp; done) | (go_simp; rfl)); intro gb126 hg w4 hbox hb; have n0_ := Aside0.mk (below_step (by repeat (first | (with_reducible first | exact HB.out | apply below_alloc | apply pw_below_drewN | apply below_drew1) | exact HB.out)) hb); have n1_ := Aside0.mk (hbox); have n2_ := Aside0.mk ((by rw [hg]; exact (below_size (by repeat (first | (with_reducible first | exact HB.out | apply below_alloc | apply pw_below_drewN | apply below_drew1) | exact HB.out))) : w.heap.size ≤ gb126)); have n3_ := Aside0.mk ((by rw [hg]; exact (below_size (by repeat (first | (with_reducible first | exact HB.out | apply below_alloc | apply pw_below_drewN | apply below_drew1) | exact HB.out))) : w.heap.size ≤ gb126)); clear HB; have HB := n0_; have BK126 := n1_; have GW126 := n2_; have GE126 := n3_; clear n0_ n1_ n2_ n3_; clear hb hbox hg; have hcz5_0 : w4.cell? ⟨gb126, 0, none⟩ = some (.string a0_0) := (blk_cell BK126.out 0).trans rfl; have hcz5_1 : w4.cell? ⟨gb126, 1, none⟩ = some (.int .i64 a0_1) := (blk_cell BK126.out 1).trans rfl; have hcz5_2 : w4.cell? ⟨gb126, 2, none⟩ = some (.int .i64 a0_2) := (blk_cell BK126.out 2).trans rfl; have hcz5_3 : w4.cell? ⟨gb126, 3, none⟩ = some (.int .i64 a0_3) := (blk_cell BK126.out 3).trans rfl; have hcz5_4 : w4.cell? ⟨gb126, 4, none⟩ = some (.int .i64 a0_4) := (blk_cell BK126.out 4).trans rfl; have hcz5_5 : w4.cell? ⟨gb126, 5, none⟩ = some (.int .i64 a0_5) := (blk_cell BK126.out 5).trans rfl; have hcz5_6 : w4.cell? ⟨gb126, 6, none⟩ = some (.int .i64 a0_6) := (blk_cell BK126.out 6).trans rfl; have hcz5_7 : w4.cell? ⟨gb126, 7, none⟩ = some (.int .i64 a0_7) := (blk_cell BK126.out 7).trans rfl; have hcz5_8 : w4.cell? ⟨gb126, 8, none⟩ = some (.int .i64 a0_8) := (blk_cell BK126.out 8).trans rfl; have hcz5_9 : w4.cell? ⟨gb126, 9, none⟩ = some (.int .i64 a0_9) := (blk_cell BK126.out 9).trans rfl; have hcz5_10 : w4.cell? ⟨gb126, 10, none⟩ = some (.int .i64 a0_10) := (blk_cell BK126.out 10).trans rfl; have hfz5_0 := blk_frozen BK126.out 0; have hfz5_1 := blk_frozen BK126.out 1; have hfz5_2 := blk_frozen BK126.out 2; have hfz5_3 := blk_frozen BK126.out 3; have hfz5_4 := blk_frozen BK126.out 4; have hfz5_5 := blk_frozen BK126.out 5; have hfz5_6 := blk_frozen BK126.out 6; have hfz5_7 := blk_frozen BK126.out 7; have hfz5_8 := blk_frozen BK126.out 8; have hfz5_9 := blk_frozen BK126.out 9; have hfz5_10 := blk_frozen BK126.out 10) | ((with_reducible refine gate_callee (f := 42) rfl ?_); refine goesL_ (some 18) rfl rfl Tryd.func42 (by kernel_rfl) rfl #[.int .i64 a0_3, .int .i64 a0_5] rfl (by (try simp only [List.map_toArray, List.map_cons, List.map_nil]); first | done | rfl | (simp only [List.length_drop, List.length_take]; rfl)) ?_; (with_reducible refine (tick_Ceil.calls k a0_3 a0_5 t127 t128 _ A3.out).mono ?_); rintro e w' ⟨rfl, ⟨nd, rfl⟩⟩; refine ⟨_, rfl, ?_⟩))
  go_ret
  exact ⟨by first | rfl | (simp [errW_none, errW_some] <;> rfl) | (simp [*, errW_none, errW_some] <;> rfl), by repeat (first | (with_reducible first | exact HB.out | apply below_alloc | apply pw_below_drewN | apply below_drew1 | refine below_set ?_ GE126.out) | exact HB.out)⟩
 ·rw [if_neg c2] at H
  have c2b0 : (a0_9 == 1) = false := beq_eq_false_iff_ne.mpr c2
  have c2b1 : (a0_9 != 1) = true := bne_iff_ne.mpr c2
  obtain rfl := Option.some.inj H
  go_enter Tryd.func36, Tryd.ntmps36
  go_wp2_with (first | ((with_reducible refine gate_dst (N := 1) rfl ?_); refine box_event ?hg (N := 1) ?hd (cs := #[.string a0_0, .int .i64 a0_1, .int .i64 a0_2, .int .i64 a0_3, .int .i64 a0_4, .int .i64 a0_5, .int .i64 a0_6, .int .i64 a0_7, .int .i64 a0_8, .int .i64 a0_9, .int .i64 a0_10]) (t := 39) ?hr ?_; (case hd => rfl); (case hg => rfl); (case hr => first | (go_simp; done) | (go_simp; rfl)); intro gb126 hg w6 hbox hb; have n0_ := Aside0.mk (below_step (by repeat (first | (with_reducible first | exact HB.out | apply below_alloc | apply pw_below_drewN | apply below_drew1) | exact HB.out)) hb); have n1_ := Aside0.mk (hbox); have n2_ := Aside0.mk ((by rw [hg]; exact (below_size (by repeat (first | (with_reducible first | exact HB.out | apply below_alloc | apply pw_below_drewN | apply below_drew1) | exact HB.out))) : w.heap.size ≤ gb126)); have n3_ := Aside0.mk ((by rw [hg]; exact (below_size (by repeat (first | (with_reducible first | exact HB.out | apply below_alloc | apply pw_below_drewN | apply below_drew1) | exact HB.out))) : w.heap.size ≤ gb126)); clear HB; have HB := n0_; have BK126 := n1_; have GW126 := n2_; have GE126 := n3_; clear n0_ n1_ n2_ n3_; clear hb hbox hg; have hcz7_0 : w6.cell? ⟨gb126, 0, none⟩ = some (.string a0_0) := (blk_cell BK126.out 0).trans rfl; have hcz7_1 : w6.cell? ⟨gb126, 1, none⟩ = some (.int .i64 a0_1) := (blk_cell BK126.out 1).trans rfl; have hcz7_2 : w6.cell? ⟨gb126, 2, none⟩ = some (.int .i64 a0_2) := (blk_cell BK126.out 2).trans rfl; have hcz7_3 : w6.cell? ⟨gb126, 3, none⟩ = some (.int .i64 a0_3) := (blk_cell BK126.out 3).trans rfl; have hcz7_4 : w6.cell? ⟨gb126, 4, none⟩ = some (.int .i64 a0_4) := (blk_cell BK126.out 4).trans rfl; have hcz7_5 : w6.cell? ⟨gb126, 5, none⟩ = some (.int .i64 a0_5) := (blk_cell BK126.out 5).trans rfl; have hcz7_6 : w6.cell? ⟨gb126, 6, none⟩ = some (.int .i64 a0_6) := (blk_cell BK126.out 6).trans rfl; have hcz7_7 : w6.cell? ⟨gb126, 7, none⟩ = some (.int .i64 a0_7) := (blk_cell BK126.out 7).trans rfl; have hcz7_8 : w6.cell? ⟨gb126, 8, none⟩ = some (.int .i64 a0_8) := (blk_cell BK126.out 8).trans rfl; have hcz7_9 : w6.cell? ⟨gb126, 9, none⟩ = some (.int .i64 a0_9) := (blk_cell BK126.out 9).trans rfl; have hcz7_10 : w6.cell? ⟨gb126, 10, none⟩ = some (.int .i64 a0_10) := (blk_cell BK126.out 10).trans rfl; have hfz7_0 := blk_frozen BK126.out 0; have hfz7_1 := blk_frozen BK126.out 1; have hfz7_2 := blk_frozen BK126.out 2; have hfz7_3 := blk_frozen BK126.out 3; have hfz7_4 := blk_frozen BK126.out 4; have hfz7_5 := blk_frozen BK126.out 5; have hfz7_6 := blk_frozen BK126.out 6; have hfz7_7 := blk_frozen BK126.out 7; have hfz7_8 := blk_frozen BK126.out 8; have hfz7_9 := blk_frozen BK126.out 9; have hfz7_10 := blk_frozen BK126.out 10))
  go_ret
  exact ⟨by first | rfl | (simp [errW_none, errW_some] <;> rfl) | (simp [*, errW_none, errW_some] <;> rfl), by repeat (first | (with_reducible first | exact HB.out | apply below_alloc | apply pw_below_drewN | apply below_drew1 | refine below_set ?_ GE126.out) | exact HB.out)⟩

/-! ### demand_Extra: function 57 -/
def demand_Extra.f (a0_0 : ByteArray) (a0_1 : Int) (a0_2 : Int) (a0_3 : Int) (a0_4 : Int) (a0_5 : Int) (a0_6 : Int) (a0_7 : Int) (a0_8 : Int) (a0_9 : Int) (a0_10 : Int) : Option (Int) := if a0_9 = 1 then (some (wrap64 (a0_5 + a0_6))) else (some (wrap64 (a0_4 + a0_6)))
set_option maxHeartbeats 8000000 in
set_option maxRecDepth 100000 in
theorem demand_Extra.calls (a0_0 : ByteArray) (a0_1 : Int) (a0_2 : Int) (a0_3 : Int) (a0_4 : Int) (a0_5 : Int) (a0_6 : Int) (a0_7 : Int) (a0_8 : Int) (a0_9 : Int) (a0_10 : Int) (r : Int) (w : World) (h : demand_Extra.f a0_0 a0_1 a0_2 a0_3 a0_4 a0_5 a0_6 a0_7 a0_8 a0_9 a0_10 = some r) :
  Calls Tryd.prog 57 #[.agg #[.string a0_0, .int .i64 a0_1, .int .i64 a0_2, .int .i64 a0_3, .int .i64 a0_4, .int .i64 a0_5, .int .i64 a0_6, .int .i64 a0_7, .int .i64 a0_8, .int .i64 a0_9, .int .i64 a0_10]] w fun e w' => e = .returned (.int .i64 r) ∧ Below w.heap.size w w' := by
 have hu39 := Tryd.underlying39
 have HB := Aside0.mk (Below.refl w.heap.size w)
 have H : (if a0_9 = 1 then (some (wrap64 (a0_5 + a0_6))) else (some (wrap64 (a0_4 + a0_6)))) = some r := h
 clear h
 by_cases c2 : a0_9 = 1
 ·rw [if_pos c2] at H
  have c2b0 : (a0_9 == 1) = true := beq_iff_eq.mpr c2
  have c2b1 : (a0_9 != 1) = false := bne_eq_false_iff_eq.mpr c2
  clear c2
  obtain rfl := Option.some.inj H
  go_enter Tryd.func57, Tryd.ntmps57
  go_wp2_with (first | ((with_reducible refine gate_dst (N := 1) rfl ?_); refine box_event ?hg (N := 1) ?hd (cs := #[.string a0_0, .int .i64 a0_1, .int .i64 a0_2, .int .i64 a0_3, .int .i64 a0_4, .int .i64 a0_5, .int .i64 a0_6, .int .i64 a0_7, .int .i64 a0_8, .int .i64 a0_9, .int .i64 a0_10]) (t := 39) ?hr ?_; (case hd => rfl); (case hg => rfl); (case hr => first | (go_simp; done) | (go_simp; rfl)); intro gb129 hg w3 hbox hb; have n0_ := Aside0.mk (below_step (by repeat (first | (with_reducible first | exact HB.out | apply below_alloc | apply pw_below_drewN | apply below_drew1) | exact HB.out)) hb); have n1_ := Aside0.mk (hbox); have n2_ := Aside0.mk ((by rw [hg]; exact (below_size (by repeat (first | (with_reducible first | exact HB.out | apply below_alloc | apply pw_below_drewN | apply below_drew1) | exact HB.out))) : w.heap.size ≤ gb129)); have n3_ := Aside0.mk ((by rw [hg]; exact (below_size (by repeat (first | (with_reducible first | exact HB.out | apply below_alloc | apply pw_below_drewN | apply below_drew1) | exact HB.out))) : w.heap.size ≤ gb129)); clear HB; have HB := n0_; have BK129 := n1_; have GW129 := n2_; have GE129 := n3_; clear n0_ n1_ n2_ n3_; clear hb hbox hg; have hcz4_0 : w3.cell? ⟨gb129, 0, none⟩ = some (.string a0_0) := (blk_cell BK129.out 0).trans rfl; have hcz4_1 : w3.cell? ⟨gb129, 1, none⟩ = some (.int .i64 a0_1) := (blk_cell BK129.out 1).trans rfl; have hcz4_2 : w3.cell? ⟨gb129, 2, none⟩ = some (.int .i64 a0_2) := (blk_cell BK129.out 2).trans rfl; have hcz4_3 : w3.cell? ⟨gb129, 3, none⟩ = some (.int .i64 a0_3) := (blk_cell BK129.out 3).trans rfl; have hcz4_4 : w3.cell? ⟨gb129, 4, none⟩ = some (.int .i64 a0_4) := (blk_cell BK129.out 4).trans rfl; have hcz4_5 : w3.cell? ⟨gb129, 5, none⟩ = some (.int .i64 a0_5) := (blk_cell BK129.out 5).trans rfl; have hcz4_6 : w3.cell? ⟨gb129, 6, none⟩ = some (.int .i64 a0_6) := (blk_cell BK129.out 6).trans rfl; have hcz4_7 : w3.cell? ⟨gb129, 7, none⟩ = some (.int .i64 a0_7) := (blk_cell BK129.out 7).trans rfl; have hcz4_8 : w3.cell? ⟨gb129, 8, none⟩ = some (.int .i64 a0_8) := (blk_cell BK129.out 8).trans rfl; have hcz4_9 : w3.cell? ⟨gb129, 9, none⟩ = some (.int .i64 a0_9) := (blk_cell BK129.out 9).trans rfl; have hcz4_10 : w3.cell? ⟨gb129, 10, none⟩ = some (.int .i64 a0_10) := (blk_cell BK129.out 10).trans rfl; have hfz4_0 := blk_frozen BK129.out 0; have hfz4_1 := blk_frozen BK129.out 1; have hfz4_2 := blk_frozen BK129.out 2; have hfz4_3 := blk_frozen BK129.out 3; have hfz4_4 := blk_frozen BK129.out 4; have hfz4_5 := blk_frozen BK129.out 5; have hfz4_6 := blk_frozen BK129.out 6; have hfz4_7 := blk_frozen BK129.out 7; have hfz4_8 := blk_frozen BK129.out 8; have hfz4_9 := blk_frozen BK129.out 9; have hfz4_10 := blk_frozen BK129.out 10))
  go_ret
  exact ⟨by first | rfl | (simp [errW_none, errW_some] <;> rfl) | (simp [*, errW_none, errW_some] <;> rfl), by repeat (first | (with_reducible first | exact HB.out | apply below_alloc | apply pw_below_drewN | apply below_drew1 | refine below_set ?_ GE129.out) | exact HB.out)⟩
 ·rw [if_neg c2] at H
  have c2b0 : (a0_9 == 1) = false := beq_eq_false_iff_ne.mpr c2
  have c2b1 : (a0_9 != 1) = true := bne_iff_ne.mpr c2
  obtain rfl := Option.some.inj H
  go_enter Tryd.func57, Tryd.ntmps57
  go_wp2_with (first | ((with_reducible refine gate_dst (N := 1) rfl ?_); refine box_event ?hg (N := 1) ?hd (cs := #[.string a0_0, .int .i64 a0_1, .int .i64 a0_2, .int .i64 a0_3, .int .i64 a0_4, .int .i64 a0_5, .int .i64 a0_6, .int .i64 a0_7, .int .i64 a0_8, .int .i64 a0_9, .int .i64 a0_10]) (t := 39) ?hr ?_; (case hd => rfl); (case hg => rfl); (case hr => first | (go_simp; done) | (go_simp; rfl)); intro gb129 hg w5 hbox hb; have n0_ := Aside0.mk (below_step (by repeat (first | (with_reducible first | exact HB.out | apply below_alloc | apply pw_below_drewN | apply below_drew1) | exact HB.out)) hb); have n1_ := Aside0.mk (hbox); have n2_ := Aside0.mk ((by rw [hg]; exact (below_size (by repeat (first | (with_reducible first | exact HB.out | apply below_alloc | apply pw_below_drewN | apply below_drew1) | exact HB.out))) : w.heap.size ≤ gb129)); have n3_ := Aside0.mk ((by rw [hg]; exact (below_size (by repeat (first | (with_reducible first | exact HB.out | apply below_alloc | apply pw_below_drewN | apply below_drew1) | exact HB.out))) : w.heap.size ≤ gb129)); clear HB; have HB := n0_; have BK129 := n1_; have GW129 := n2_; have GE129 := n3_; clear n0_ n1_ n2_ n3_; clear hb hbox hg; have hcz6_0 : w5.cell? ⟨gb129, 0, none⟩ = some (.string a0_0) := (blk_cell BK129.out 0).trans rfl; have hcz6_1 : w5.cell? ⟨gb129, 1, none⟩ = some (.int .i64 a0_1) := (blk_cell BK129.out 1).trans rfl; have hcz6_2 : w5.cell? ⟨gb129, 2, none⟩ = some (.int .i64 a0_2) := (blk_cell BK129.out 2).trans rfl; have hcz6_3 : w5.cell? ⟨gb129, 3, none⟩ = some (.int .i64 a0_3) := (blk_cell BK129.out 3).trans rfl; have hcz6_4 : w5.cell? ⟨gb129, 4, none⟩ = some (.int .i64 a0_4) := (blk_cell BK129.out 4).trans rfl; have hcz6_5 : w5.cell? ⟨gb129, 5, none⟩ = some (.int .i64 a0_5) := (blk_cell BK129.out 5).trans rfl; have hcz6_6 : w5.cell? ⟨gb129, 6, none⟩ = some (.int .i64 a0_6) := (blk_cell BK129.out 6).trans rfl; have hcz6_7 : w5.cell? ⟨gb129, 7, none⟩ = some (.int .i64 a0_7) := (blk_cell BK129.out 7).trans rfl; have hcz6_8 : w5.cell? ⟨gb129, 8, none⟩ = some (.int .i64 a0_8) := (blk_cell BK129.out 8).trans rfl; have hcz6_9 : w5.cell? ⟨gb129, 9, none⟩ = some (.int .i64 a0_9) := (blk_cell BK129.out 9).trans rfl; have hcz6_10 : w5.cell? ⟨gb129, 10, none⟩ = some (.int .i64 a0_10) := (blk_cell BK129.out 10).trans rfl; have hfz6_0 := blk_frozen BK129.out 0; have hfz6_1 := blk_frozen BK129.out 1; have hfz6_2 := blk_frozen BK129.out 2; have hfz6_3 := blk_frozen BK129.out 3; have hfz6_4 := blk_frozen BK129.out 4; have hfz6_5 := blk_frozen BK129.out 5; have hfz6_6 := blk_frozen BK129.out 6; have hfz6_7 := blk_frozen BK129.out 7; have hfz6_8 := blk_frozen BK129.out 8; have hfz6_9 := blk_frozen BK129.out 9; have hfz6_10 := blk_frozen BK129.out 10))
  go_ret
  exact ⟨by first | rfl | (simp [errW_none, errW_some] <;> rfl) | (simp [*, errW_none, errW_some] <;> rfl), by repeat (first | (with_reducible first | exact HB.out | apply below_alloc | apply pw_below_drewN | apply below_drew1 | refine below_set ?_ GE129.out) | exact HB.out)⟩

end Go.Proofs.YtefenbhcbpfihaaDoor.Q

-- What demand.Extra answers of right tasks; tasks whose numbers are right, to be decided (no program in sight).
namespace Go.Proofs.YtefenbhcbpfihaaDoor.Q
open Go.RowKit Go.Proofs.YtefenbhcbpfihaaDoorW.PrintWords Go.Proofs.YtefenbhcbpfihaaDoorW.PrintLast Go.Proofs.YtefenbhcbpfihaaDoorW.PrintMore
attribute [local go_sem] max2_int min2_int max_two min_two max_three min_three max_four min_four   -- for this text's walks alone
set_option linter.unusedVariables false
set_option linter.unusedSimpArgs false

theorem w64_ok {x : Int} (h0 : -9000000000000000000 ≤ x) (h1 : x ≤ 9000000000000000000) : wrap64 x = x := by unfold wrap64; omega
theorem extra_eval {t : TK} (h : Dem t) : demand_Extra.f t.f0 t.f1 t.f2 t.f3 t.f4 t.f5 t.f6 t.f7 t.f8 t.f9 t.f10 = some (extraF t) := by
 obtain ⟨T1, T2, D1, D2, C1, C2, X1, X2, M⟩ := h
 unfold demand_Extra.f extraF
 split
 ·rw [w64_ok (by rcases M with ⟨h, _⟩ | ⟨h, _⟩ <;> omega) (by rcases M with ⟨h, _⟩ | ⟨h, _⟩ <;> omega)]
 ·rw [w64_ok (by rcases M with ⟨h, _⟩ | ⟨h, _⟩ <;> omega) (by rcases M with ⟨h, _⟩ | ⟨h, _⟩ <;> omega)]
instance (t : TK) : Decidable (Dem t) := decidable_of_iff ((1 ≤ t.f1 ∧ t.f1 ≤ 1048576 ∧ 1 ≤ t.f2 ∧ t.f2 ≤ t.f1) ∧ (1 ≤ t.f3 ∧ t.f3 ≤ t.f2 ∧ 0 ≤ t.f6 ∧ t.f6 ≤ 1000) ∧ ((t.f9 = 1 ∧ 1 ≤ t.f5 ∧ t.f5 ≤ t.f3 ∧ t.f4 = 0) ∨ ((t.f9 = 2 ∨ t.f9 = 3) ∧ 1 ≤ t.f4 ∧ t.f4 ≤ t.f2 ∧ t.f5 = 0)))
 ⟨fun ⟨⟨a, b, c, d⟩, ⟨e, f, g, h⟩, m⟩ => ⟨a, b, c, d, e, f, g, h, m⟩, fun ⟨a, b, c, d, e, f, g, h, m⟩ => ⟨⟨a, b, c, d⟩, ⟨e, f, g, h⟩, m⟩⟩
end Go.Proofs.YtefenbhcbpfihaaDoor.Q

-- Written for this claim by the session's own driver (wip/qprint.py) over the kit's printer, out of the translation. Not trusted: Lean checks it.
namespace Go.Proofs.YtefenbhcbpfihaaDoor.Q
open Go.RowKit Go.Proofs.YtefenbhcbpfihaaDoorW.PrintWords Go.Proofs.YtefenbhcbpfihaaDoorW.PrintLast Go.Proofs.YtefenbhcbpfihaaDoorW.PrintMore
attribute [local go_sem] max2_int min2_int max_two min_two max_three min_three max_four min_four   -- for this text's walks alone
set_option linter.unusedVariables false
set_option linter.unusedSimpArgs false

/-! ### burst_Most: function 40 -/
def burst_Most.f (k : Nat) (a0 : Int) (a1 : Int) (a2 : Int) : Option (Int) := if a0 = 0 then (some 0) else ((tick_Ceil.f k (wrap64 ((wrap64 (a0 + a1)) - 1)) a2).bind fun bt130 => (some bt130.1))
theorem burst_Most.mono : ∀ a0 a1 a2 k, LeO (burst_Most.f k a0 a1 a2) (burst_Most.f (k + 1) a0 a1 a2) := by
 intro a0 a1 a2 k
 unfold burst_Most.f
 repeat' first
   | (with_reducible exact tick_Ceil.mono _ _ _)
   | (with_reducible exact LeO.refl _)
   | (with_reducible exact LeO.none _)
   | (with_reducible refine LeO.ite ?_ ?_)
   | (with_reducible refine LeO.bind ?_ (fun _ => ?_))
   | exact tick_Ceil.mono _ _ _
   | exact LeO.none _
   | refine LeO.ite ?_ ?_
   | refine LeO.bind ?_ (fun _ => ?_)
set_option maxHeartbeats 8000000 in
set_option maxRecDepth 100000 in
theorem burst_Most.calls (k : Nat) (a0 : Int) (a1 : Int) (a2 : Int) (r : Int) (w : World) (h : burst_Most.f k a0 a1 a2 = some r) :
  Calls Tryd.prog 40 #[.int .i64 a0, .int .i64 a1, .int .i64 a2] w fun e w' => e = .returned (.int .i64 r) ∧ Drawn0 w w' := by
 have H : (if a0 = 0 then (some 0) else ((tick_Ceil.f k (wrap64 ((wrap64 (a0 + a1)) - 1)) a2).bind fun bt130 => (some bt130.1))) = some r := h
 clear h
 by_cases c4 : a0 = 0
 ·rw [if_pos c4] at H
  have c4b0 : (a0 == 0) = true := beq_iff_eq.mpr c4
  have c4b1 : (a0 != 0) = false := bne_eq_false_iff_eq.mpr c4
  clear c4
  obtain rfl := Option.some.inj H
  go_enter Tryd.func40, Tryd.ntmps40
  go_wp2
  go_ret
  exact ⟨by first | rfl | (simp; done) | (simp [*]; done), by repeat (first | exact Drawn0.refl _ | apply Drawn0.step)⟩
 ·rw [if_neg c4] at H
  have c4b0 : (a0 == 0) = false := beq_eq_false_iff_ne.mpr c4
  have c4b1 : (a0 != 0) = true := bne_iff_ne.mpr c4
  replace H := Option.bind_eq_some_iff.mp H
  obtain ⟨⟨t130, t131⟩, A50, H⟩ := H
  replace H : (some t130) = some r := H
  have A5 := Aside0.mk A50
  clear A50
  obtain rfl := Option.some.inj H
  go_enter Tryd.func40, Tryd.ntmps40
  go_wp2_with (first | ((with_reducible refine gate_callee (f := 42) rfl ?_); refine goesL_ (some 17) rfl rfl Tryd.func42 (by kernel_rfl) rfl #[.int .i64 (wrap64 ((wrap64 (a0 + a1)) - 1)), .int .i64 a2] rfl (by (try simp only [List.map_toArray, List.map_cons, List.map_nil]); first | done | rfl | (simp only [List.length_drop, List.length_take]; rfl)) ?_; (with_reducible refine (tick_Ceil.calls k (wrap64 ((wrap64 (a0 + a1)) - 1)) a2 t130 t131 _ A5.out).mono ?_); rintro e w' ⟨rfl, ⟨nd, rfl⟩⟩; refine ⟨_, rfl, ?_⟩))
  go_ret
  exact ⟨by first | rfl | (simp; done) | (simp [*]; done), by repeat (first | exact Drawn0.refl _ | apply Drawn0.step)⟩

end Go.Proofs.YtefenbhcbpfihaaDoor.Q

-- Written for this claim by the session's own driver (wip/qprint.py) over the kit's printer, out of the translation. Not trusted: Lean checks it.
namespace Go.Proofs.YtefenbhcbpfihaaDoor.Q
open Go.RowKit Go.Proofs.YtefenbhcbpfihaaDoorW.PrintWords Go.Proofs.YtefenbhcbpfihaaDoorW.PrintLast Go.Proofs.YtefenbhcbpfihaaDoorW.PrintMore
attribute [local go_sem] max2_int min2_int max_two min_two max_three min_three max_four min_four   -- for this text's walks alone
set_option linter.unusedVariables false
set_option linter.unusedSimpArgs false

/-! ### tick_Add: function 59 -/
def tick_Add.f (a0 : Int) (a1 : Int) : Option (Int × Bool) := (tick_time.f a0).bind fun t132 => (if t132 = true then ((tick_time.f a1).bind fun t133 => (if t133 = true then (if a0 > (wrap64 (4611686018427387904 - a1)) then (some (0, false)) else (some (wrap64 (a0 + a1), true))) else (some (0, false)))) else (some (0, false)))
set_option maxHeartbeats 8000000 in
set_option maxRecDepth 100000 in
theorem tick_Add.calls (a0 : Int) (a1 : Int) (r1 : Int) (r2 : Bool) (w : World) (h : tick_Add.f a0 a1 = some (r1, r2)) :
  Calls Tryd.prog 59 #[.int .i64 a0, .int .i64 a1] w fun e w' => e = .returned (.tuple #[.int .i64 r1, .bool r2]) ∧ Drawn0 w w' := by
 have H : ((tick_time.f a0).bind fun t132 => (if t132 = true then ((tick_time.f a1).bind fun t133 => (if t133 = true then (if a0 > (wrap64 (4611686018427387904 - a1)) then (some (0, false)) else (some (wrap64 (a0 + a1), true))) else (some (0, false)))) else (some (0, false)))) = some (r1, r2) := h
 clear h
 replace H := Option.bind_eq_some_iff.mp H
 obtain ⟨t132, A30, H⟩ := H
 replace H : (if t132 = true then ((tick_time.f a1).bind fun t133 => (if t133 = true then (if a0 > (wrap64 (4611686018427387904 - a1)) then (some (0, false)) else (some (wrap64 (a0 + a1), true))) else (some (0, false)))) else (some (0, false))) = some (r1, r2) := H
 have A3 := Aside0.mk A30
 clear A30
 by_cases c4 : t132 = true
 ·subst c4
  have H1 : ((tick_time.f a1).bind fun t133 => (if t133 = true then (if a0 > (wrap64 (4611686018427387904 - a1)) then (some (0, false)) else (some (wrap64 (a0 + a1), true))) else (some (0, false)))) = some (r1, r2) := by rw [if_pos rfl] at H; exact H
  clear H
  have H := H1
  clear H1
  replace H := Option.bind_eq_some_iff.mp H
  obtain ⟨t133, A50, H⟩ := H
  replace H : (if t133 = true then (if a0 > (wrap64 (4611686018427387904 - a1)) then (some (0, false)) else (some (wrap64 (a0 + a1), true))) else (some (0, false))) = some (r1, r2) := H
  have A5 := Aside0.mk A50
  clear A50
  by_cases c6 : t133 = true
  ·subst c6
   have H1 : (if a0 > (wrap64 (4611686018427387904 - a1)) then (some (0, false)) else (some (wrap64 (a0 + a1), true))) = some (r1, r2) := by rw [if_pos rfl] at H; exact H
   clear H
   have H := H1
   clear H1
   by_cases c7 : a0 > (wrap64 (4611686018427387904 - a1))
   ·rw [if_pos c7] at H
    have c7b0 : decide ((wrap64 (4611686018427387904 - a1)) < a0) = true := decide_eq_true c7
    clear c7
    simp only [Option.some.injEq, Prod.mk.injEq] at H
    obtain ⟨rfl, rfl⟩ := H
    go_enter Tryd.func59, Tryd.ntmps59
    go_wp2_with (first | ((with_reducible refine gate_callee (f := 58) rfl ?_); refine goesL_ (some 7) rfl rfl Tryd.func58 (by kernel_rfl) rfl #[.int .i64 a0] rfl (by (try simp only [List.map_toArray, List.map_cons, List.map_nil]); first | done | rfl | (simp only [List.length_drop, List.length_take]; rfl)) ?_; (with_reducible refine (tick_time.calls a0 true _ A3.out).mono ?_); rintro e w' ⟨rfl, ⟨nd, rfl⟩⟩; refine ⟨_, rfl, ?_⟩; (try clear A3)) | (go_at_call 58; (with_reducible refine (tick_time.calls a1 true _ A5.out).mono ?_); rintro e w' ⟨rfl, ⟨nd, rfl⟩⟩))
    go_ret2
    exact ⟨by first | rfl | (simp; done) | (simp [*]; done), by repeat (first | exact Drawn0.refl _ | apply Drawn0.step)⟩
   ·rw [if_neg c7] at H
    have c7b0 : decide ((wrap64 (4611686018427387904 - a1)) < a0) = false := decide_eq_false c7
    clear c7
    simp only [Option.some.injEq, Prod.mk.injEq] at H
    obtain ⟨rfl, rfl⟩ := H
    go_enter Tryd.func59, Tryd.ntmps59
    go_wp2_with (first | ((with_reducible refine gate_callee (f := 58) rfl ?_); refine goesL_ (some 7) rfl rfl Tryd.func58 (by kernel_rfl) rfl #[.int .i64 a0] rfl (by (try simp only [List.map_toArray, List.map_cons, List.map_nil]); first | done | rfl | (simp only [List.length_drop, List.length_take]; rfl)) ?_; (with_reducible refine (tick_time.calls a0 true _ A3.out).mono ?_); rintro e w' ⟨rfl, ⟨nd, rfl⟩⟩; refine ⟨_, rfl, ?_⟩; (try clear A3)) | (go_at_call 58; (with_reducible refine (tick_time.calls a1 true _ A5.out).mono ?_); rintro e w' ⟨rfl, ⟨nd, rfl⟩⟩))
    go_ret2
    exact ⟨by first | rfl | (simp; done) | (simp [*]; done), by repeat (first | exact Drawn0.refl _ | apply Drawn0.step)⟩
  ·replace c6 := Bool.eq_false_iff.mpr c6
   subst c6
   have H1 : (some (0, false)) = some (r1, r2) := by rw [if_neg (show ¬ (false = true) by decide)] at H; exact H
   clear H
   have H := H1
   clear H1
   simp only [Option.some.injEq, Prod.mk.injEq] at H
   obtain ⟨rfl, rfl⟩ := H
   go_enter Tryd.func59, Tryd.ntmps59
   go_wp2_with (first | ((with_reducible refine gate_callee (f := 58) rfl ?_); refine goesL_ (some 7) rfl rfl Tryd.func58 (by kernel_rfl) rfl #[.int .i64 a0] rfl (by (try simp only [List.map_toArray, List.map_cons, List.map_nil]); first | done | rfl | (simp only [List.length_drop, List.length_take]; rfl)) ?_; (with_reducible refine (tick_time.calls a0 true _ A3.out).mono ?_); rintro e w' ⟨rfl, ⟨nd, rfl⟩⟩; refine ⟨_, rfl, ?_⟩; (try clear A3)) | (go_at_call 58; (with_reducible refine (tick_time.calls a1 false _ A5.out).mono ?_); rintro e w' ⟨rfl, ⟨nd, rfl⟩⟩))
   go_ret2
   exact ⟨by first | rfl | (simp; done) | (simp [*]; done), by repeat (first | exact Drawn0.refl _ | apply Drawn0.step)⟩
 ·replace c4 := Bool.eq_false_iff.mpr c4
  subst c4
  have H1 : (some (0, false)) = some (r1, r2) := by rw [if_neg (show ¬ (false = true) by decide)] at H; exact H
  clear H
  have H := H1
  clear H1
  simp only [Option.some.injEq, Prod.mk.injEq] at H
  obtain ⟨rfl, rfl⟩ := H
  go_enter Tryd.func59, Tryd.ntmps59
  go_wp2_with (first | ((with_reducible refine gate_callee (f := 58) rfl ?_); refine goesL_ (some 7) rfl rfl Tryd.func58 (by kernel_rfl) rfl #[.int .i64 a0] rfl (by (try simp only [List.map_toArray, List.map_cons, List.map_nil]); first | done | rfl | (simp only [List.length_drop, List.length_take]; rfl)) ?_; (with_reducible refine (tick_time.calls a0 false _ A3.out).mono ?_); rintro e w' ⟨rfl, ⟨nd, rfl⟩⟩; refine ⟨_, rfl, ?_⟩))
  go_ret2
  exact ⟨by first | rfl | (simp; done) | (simp [*]; done), by repeat (first | exact Drawn0.refl _ | apply Drawn0.step)⟩

/-! ### tick_Sum: function 43 -/
def tick_Sum.l0 : Nat → Int → List Int → Int → Int → Option (Int × Bool)
 | 0, _, _, _, _ => none
 | k + 1, x4, x8, x9, x10 => if x10 < x9 then (if 0 ≤ x10 then (if x10 < (x8.length : Int) then ((tick_Add.f x4 (rd x8 x10)).bind fun bt135 => (if bt135.2 = true then (tick_Sum.l0 k bt135.1 x8 x9 (wrap64 (x10 + 1))) else (some (0, false)))) else (none)) else (none)) else (some (x4, true))
def tick_Sum.f (k : Nat) (l0 : List Int) : Option (Int × Bool) := tick_Sum.l0 k 0 l0 (l0.length : Int) 0
theorem tick_Sum.mono_l : ∀ k, (∀ y0 y1 y2 y3, LeO (tick_Sum.l0 k y0 y1 y2 y3) (tick_Sum.l0 (k + 1) y0 y1 y2 y3))
 | 0 => fun _ _ _ _ r h => by simp [tick_Sum.l0] at h
 | k + 1 => by
  have ih0 := tick_Sum.mono_l k
  ·intro y0 y1 y2 y3
   unfold tick_Sum.l0
   repeat' first
   | (with_reducible exact ih0 _ _ _ _)
   | (with_reducible exact LeO.refl _)
   | (with_reducible exact LeO.none _)
   | (with_reducible refine LeO.ite ?_ ?_)
   | (with_reducible refine LeO.bind ?_ (fun _ => ?_))
   | exact ih0 _ _ _ _
   | exact LeO.none _
   | refine LeO.ite ?_ ?_
   | refine LeO.bind ?_ (fun _ => ?_)
theorem tick_Sum.mono : ∀ a0 k, LeO (tick_Sum.f k a0) (tick_Sum.f (k + 1) a0) := by
 intro a0 k
 have ih0 := tick_Sum.mono_l k
 unfold tick_Sum.f
 repeat' first
   | (with_reducible exact ih0 _ _ _ _)
   | (with_reducible exact LeO.refl _)
   | (with_reducible exact LeO.none _)
   | (with_reducible refine LeO.ite ?_ ?_)
   | (with_reducible refine LeO.bind ?_ (fun _ => ?_))
   | exact ih0 _ _ _ _
   | exact LeO.none _
   | refine LeO.ite ?_ ?_
   | refine LeO.bind ?_ (fun _ => ?_)
set_option maxHeartbeats 8000000 in
set_option maxRecDepth 100000 in
theorem tick_Sum.calls (k : Nat) (A0 : Option Addr) (c0 : Nat) (l0 : List Int) (r1 : Int) (r2 : Bool) (w : World) (hr0 : Kd.C (Kd.int .i64) w A0 l0.length l0) (hc0 : l0.length ≤ c0) (h : tick_Sum.f k l0 = some (r1, r2)) :
  Calls Tryd.prog 43 #[.slice A0 l0.length c0] w fun e w' => e = .returned (.tuple #[.int .i64 r1, .bool r2]) ∧ Drawn0 w w' := by
 have HR0 := Aside0.mk hr0
 have HC0 := Aside0.mk hc0
 clear hr0 hc0
 have H : (tick_Sum.l0 k 0 l0 (l0.length : Int) 0) = some (r1, r2) := h
 clear h
 have H' := Aside0.mk H
 clear H
 go_enter Tryd.func43, Tryd.ntmps43
 go_wp2
 go_loopg [4, 10] k (fun kq v4 v10 w' => ∃ (x4_1 : Int) (x10_1 : Int), v4 = .int .i64 x4_1 ∧ v10 = .int .i64 x10_1 ∧ Aside0 (tick_Sum.l0 kq x4_1 l0 (l0.length : Int) x10_1 = some (r1, r2)) ∧ Aside0 (kq ≤ k) ∧ Drawn0 w w')
 case atStart => exact ⟨(0), (0), (by first | rfl | (simp; done) | (simp [*]; done)), (by first | rfl | (simp; done) | (simp [*]; done)), H', ⟨Nat.le_refl _⟩, by repeat (first | exact Drawn0.refl _ | apply Drawn0.step)⟩
 case round =>
  clear H'
  obtain ⟨x4_1, x10_1, rfl, rfl, HA, HK1, ⟨m1, rfl⟩⟩ := hrel
  cases gk with
  | zero => exact absurd HA.out (by simp [tick_Sum.l0])
  | succ k1 =>
   have H := HA.out
   clear HA
   simp only [tick_Sum.l0] at H
   by_cases c2 : x10_1 < (l0.length : Int)
   ·rw [if_pos c2] at H
    have c2b0 : decide (x10_1 < (l0.length : Int)) = true := decide_eq_true c2
    clear c2
    by_cases c3 : 0 ≤ x10_1
    ·rw [if_pos c3] at H
     have c3b0 : decide (0 ≤ x10_1) = true := decide_eq_true c3
     clear c3
     by_cases c4 : x10_1 < (l0.length : Int)
     ·rw [if_pos c4] at H
      have c4b0 : decide (x10_1 < (l0.length : Int)) = true := decide_eq_true c4
      clear c4
      replace H := Option.bind_eq_some_iff.mp H
      obtain ⟨⟨t135, t136⟩, A50, H⟩ := H
      replace H : (if t136 = true then (tick_Sum.l0 k1 t135 l0 (l0.length : Int) (wrap64 (x10_1 + 1))) else (some (0, false))) = some (r1, r2) := H
      have A5 := Aside0.mk A50
      clear A50
      by_cases c6 : t136 = true
      ·subst c6
       have H1 : (tick_Sum.l0 k1 t135 l0 (l0.length : Int) (wrap64 (x10_1 + 1))) = some (r1, r2) := by rw [if_pos rfl] at H; exact H
       clear H
       have H := H1
       clear H1
       have H' := Aside0.mk H
       clear H
       have p134 : 0 ≤ (x10_1 : Int) := of_decide_eq_true (by first | (with_reducible assumption) | assumption)
       have q134 : x10_1 < (l0.length : Int) := of_decide_eq_true (by first | (with_reducible assumption) | assumption)
       obtain ⟨ad134, e134, hx134_0⟩ := Kd.at_int HR0.out x10_1 p134 q134
       cases e134
       replace p134 := eq_true p134
       replace q134 := eq_true q134
       go_wp2_with (first | ((with_reducible refine gate_callee (f := 59) rfl ?_); refine goesL_ (some 17) rfl rfl Tryd.func59 (by kernel_rfl) rfl #[.int .i64 x4_1, .int .i64 (rd l0 x10_1)] rfl (by (try simp only [List.map_toArray, List.map_cons, List.map_nil]); first | done | rfl | (simp only [List.length_drop, List.length_take]; rfl)) ?_; (with_reducible refine (tick_Add.calls x4_1 (rd l0 x10_1) t135 true _ A5.out).mono ?_); rintro e w' ⟨rfl, ⟨nd, rfl⟩⟩; refine ⟨_, rfl, ?_⟩))
       go_roundg k1
       case measure => have := HK1.out; omega
       case rel => exact ⟨(t135), (wrap64 (x10_1 + 1)), (by first | rfl | (simp; done) | (simp [*]; done)), (by first | rfl | (simp; done) | (simp [*]; done)), H', ⟨by have := HK1.out; omega⟩, by repeat (first | exact Drawn0.refl _ | apply Drawn0.step)⟩
      ·replace c6 := Bool.eq_false_iff.mpr c6
       subst c6
       have H1 : (some (0, false)) = some (r1, r2) := by rw [if_neg (show ¬ (false = true) by decide)] at H; exact H
       clear H
       have H := H1
       clear H1
       simp only [Option.some.injEq, Prod.mk.injEq] at H
       obtain ⟨rfl, rfl⟩ := H
       have p134 : 0 ≤ (x10_1 : Int) := of_decide_eq_true (by first | (with_reducible assumption) | assumption)
       have q134 : x10_1 < (l0.length : Int) := of_decide_eq_true (by first | (with_reducible assumption) | assumption)
       obtain ⟨ad134, e134, hx134_0⟩ := Kd.at_int HR0.out x10_1 p134 q134
       cases e134
       replace p134 := eq_true p134
       replace q134 := eq_true q134
       go_wp2_with (first | ((with_reducible refine gate_callee (f := 59) rfl ?_); refine goesL_ (some 17) rfl rfl Tryd.func59 (by kernel_rfl) rfl #[.int .i64 x4_1, .int .i64 (rd l0 x10_1)] rfl (by (try simp only [List.map_toArray, List.map_cons, List.map_nil]); first | done | rfl | (simp only [List.length_drop, List.length_take]; rfl)) ?_; (with_reducible refine (tick_Add.calls x4_1 (rd l0 x10_1) t135 false _ A5.out).mono ?_); rintro e w' ⟨rfl, ⟨nd, rfl⟩⟩; refine ⟨_, rfl, ?_⟩))
       go_ret2
       exact ⟨by first | rfl | (simp; done) | (simp [*]; done), by repeat (first | exact Drawn0.refl _ | apply Drawn0.step)⟩
     ·rw [if_neg c4] at H
      exact absurd H (by simp)
    ·rw [if_neg c3] at H
     exact absurd H (by simp)
   ·rw [if_neg c2] at H
    have c2b0 : decide (x10_1 < (l0.length : Int)) = false := decide_eq_false c2
    clear c2
    simp only [Option.some.injEq, Prod.mk.injEq] at H
    obtain ⟨rfl, rfl⟩ := H
    go_wp2
    go_ret2
    exact ⟨by first | rfl | (simp; done) | (simp [*]; done), by repeat (first | exact Drawn0.refl _ | apply Drawn0.step)⟩

end Go.Proofs.YtefenbhcbpfihaaDoor.Q

-- What the printed functions of chapters 13 to 19 answer of right tasks (no program in sight).
namespace Go.Proofs.YtefenbhcbpfihaaDoor.Q
open Go.RowKit Go.Proofs.YtefenbhcbpfihaaDoorW.PrintWords Go.Proofs.YtefenbhcbpfihaaDoorW.PrintLast Go.Proofs.YtefenbhcbpfihaaDoorW.PrintMore
attribute [local go_sem] max2_int min2_int max_two min_two max_three min_three max_four min_four   -- for this text's walks alone
set_option linter.unusedVariables false
set_option linter.unusedSimpArgs false

theorem time_eval {a : Int} (h0 : 0 ≤ a) (h1 : a ≤ 4611686018427387904) : tick_time.f a = some true := by
 unfold tick_time.f
 rw [if_pos h0, decide_eq_true h1]
theorem ceil_eval {a b : Int} (ha : 0 ≤ a) (ha2 : a ≤ 1000000000000000000) (hb : 0 < b) (hb2 : b ≤ 1000000000000000000) (k : Nat) : tick_Ceil.f (k + 1) a b = some (ceilF a b, true) := by
 unfold tick_Ceil.f
 rw [time_eval ha (by omega), time_eval (by omega : 0 ≤ b) (by omega)]
 simp only [Option.bind_some, if_true]
 have hbz : (b == 0) = false := beq_eq_false_iff_ne.2 (by omega)
 rw [hbz, tick_Ceil.j0, if_neg Bool.false_ne_true, if_neg (by omega), Int.tdiv_eq_ediv_of_nonneg ha]
 have h1 := Int.emod_add_mul_ediv a b
 have h2 := Int.emod_nonneg a (show b ≠ 0 by omega)
 have h3 := Int.ediv_nonneg ha (show 0 ≤ b by omega)
 have h4 : a / b ≤ a := Int.ediv_le_self _ ha
 rw [Int.mul_comm] at h1
 have hg := ceil_go hb ha
 obtain ⟨q, hq⟩ : ∃ q, a / b = q := ⟨_, rfl⟩
 rw [hq] at h1 h3 h4 hg ⊢
 rw [w64_ok (x := q) (by omega) (by omega), w64_ok (x := q * b) (by have := Int.mul_nonneg h3 (show 0 ≤ b by omega); omega) (by omega), w64_ok (x := q + 1) (by omega) (by omega), ← hg]
 split <;> rfl
theorem whole_eval {t : TK} (h : Dem t) (k : Nat) : demand_Whole.f (k + 1) t.f0 t.f1 t.f2 t.f3 t.f4 t.f5 t.f6 t.f7 t.f8 t.f9 t.f10 = some (wholeF t) := by
 unfold demand_Whole.f
 by_cases hm : t.f9 = 1
 ·have hp := h.parts hm
  have hw := h.whole
  have e : wholeF t = t.f3 + ceilF t.f3 t.f5 * t.f6 := by unfold wholeF ceilF; rw [if_pos hm]
  obtain ⟨T1, T2, D1, D2, C1, C2, X1, X2, M⟩ := h
  have hs : 0 < t.f5 := by rcases M with ⟨h, _⟩ | ⟨h, _⟩ <;> omega
  have hs2 : t.f5 ≤ 1048576 := by rcases M with ⟨h, _⟩ | ⟨h, _⟩ <;> omega
  rw [if_pos hm, ceil_eval (by omega) (by omega) hs (by omega)]
  simp only [Option.bind_some]
  rw [w64_ok (x := ceilF t.f3 t.f5 * t.f6) (by omega) (by omega), w64_ok (by omega) (by omega), e]
 ·obtain ⟨T1, T2, D1, D2, C1, C2, X1, X2, M⟩ := h
  rw [if_neg hm, w64_ok (by omega) (by omega)]
  unfold wholeF
  rw [if_neg hm]
theorem most_eval {w b g : Int} (hw : 0 ≤ w) (hw2 : w ≤ 1048576) (hb : 1 ≤ b) (hb2 : b ≤ 1000) (hg : 1 ≤ g) (hg2 : g ≤ 1049576) (k : Nat) : burst_Most.f (k + 1) w b g = some (mostF w b g) := by
 unfold burst_Most.f mostF
 by_cases h : w = 0
 ·rw [if_pos h, if_pos h]
 ·rw [if_neg h, if_neg h, w64_ok (x := w + b) (by omega) (by omega), w64_ok (by omega) (by omega), ceil_eval (by omega) (by omega) (by omega) (by omega)]
  rfl
def sumL : List Int → Int
 | [] => 0
 | x :: r => x + sumL r
theorem sumL_app (a b : List Int) : sumL (a ++ b) = sumL a + sumL b := by
 induction a with
 | nil => simp [sumL]
 | cons x a ih => rw [List.cons_append, sumL, sumL, ih]; omega
theorem sumL_pos : ∀ l : List Int, (∀ x ∈ l, 0 ≤ x) → 0 ≤ sumL l
 | [], _ => Int.le_refl _
 | x :: r, h => by
  have h1 := h x List.mem_cons_self
  have h2 := sumL_pos r (fun y hy => h y (List.mem_cons_of_mem _ hy))
  rw [sumL]; omega
theorem sum_loop (l : List Int) (hp : ∀ x ∈ l, 0 ≤ x) (hl : l.length ≤ 1000000) : ∀ (n i k : Nat) (acc : Int), i + n = l.length → n < k → 0 ≤ acc → acc + sumL (l.drop i) ≤ 1000000000000000000 →
  tick_Sum.l0 k acc l (l.length : Int) (i : Int) = some (acc + sumL (l.drop i), true)
 | 0, i, k, acc, h, hk, _, _ => by
  obtain ⟨k, rfl⟩ : ∃ j, k = j + 1 := ⟨k - 1, by omega⟩
  rw [List.drop_of_length_le (by omega), sumL, tick_Sum.l0, if_neg (by omega), Int.add_zero]
 | n + 1, i, k, acc, h, hk, h0, h1 => by
  obtain ⟨k, rfl⟩ : ∃ j, k = j + 1 := ⟨k - 1, by omega⟩
  have hi : i < l.length := by omega
  have gx : rd l (i : Int) = l[i] := by simp [rd, List.getD_eq_getElem?_getD, List.getElem?_eq_getElem hi]
  have hx := hp l[i] (List.getElem_mem hi)
  rw [List.drop_eq_getElem_cons hi, sumL] at h1 ⊢
  have hr := sumL_pos (l.drop (i + 1)) (fun y hy => hp y (List.mem_of_mem_drop hy))
  have hA : tick_Add.f acc l[i] = some (acc + l[i], true) := by
   unfold tick_Add.f
   rw [time_eval h0 (by omega), time_eval hx (by omega)]
   simp only [Option.bind_some, if_true]
   rw [w64_ok (x := 4611686018427387904 - l[i]) (by omega) (by omega), if_neg (by omega), w64_ok (by omega) (by omega)]
  rw [tick_Sum.l0, if_pos (by omega), if_pos (by omega), if_pos (by omega), gx, hA]
  simp only [Option.bind_some, if_true]
  rw [show wrap64 ((i : Int) + 1) = ((i + 1 : Nat) : Int) by rw [w64_ok (by omega) (by omega)]; omega, sum_loop l hp hl n (i + 1) k (acc + l[i]) (by omega) (by omega) (by omega) (by omega)]
  rw [Int.add_assoc]
theorem sum_eval (l : List Int) (hp : ∀ x ∈ l, 0 ≤ x) (hl : l.length ≤ 1000000) (h : sumL l ≤ 1000000000000000000) (k : Nat) (hk : l.length < k) : tick_Sum.f k l = some (sumL l, true) := by
 have h2 := sum_loop l hp hl l.length 0 k 0 (by omega) hk (Int.le_refl _) (by rw [List.drop_zero]; omega)
 rw [List.drop_zero, Int.zero_add] at h2
 exact h2
end Go.Proofs.YtefenbhcbpfihaaDoor.Q

-- fix.Next's closure: one more part of the sum (walked by hand).
namespace Go.Proofs.YtefenbhcbpfihaaDoor.Q
open Go.RowKit Go.Proofs.YtefenbhcbpfihaaDoorW.PrintWords Go.Proofs.YtefenbhcbpfihaaDoorW.PrintLast Go.Proofs.YtefenbhcbpfihaaDoorW.PrintMore
attribute [local go_sem] max2_int min2_int max_two min_two max_three min_three max_four min_four   -- for this text's walks alone
set_option linter.unusedVariables false
set_option linter.unusedSimpArgs false

theorem fix_infoI : (Tryd.prog.info? 3).map (fun i => (i.zero, i.size, i.bytes)) = some (some (.int .i64 0), 1, 8) := by kernel_rfl
set_option maxHeartbeats 4000000 in
set_option maxRecDepth 100000 in
theorem mul_ask {a b : Int} (ha : 0 ≤ a) (ha2 : a ≤ 1000000000000000000) (hb : 0 ≤ b) (hb2 : b ≤ 1000000000000000000) (h : a * b ≤ 1000000000000000000) (W : World) :
  Calls Tryd.prog 39 #[.int .i64 a, .int .i64 b] W fun e w' => e = .returned (.tuple #[.int .i64 (a * b), .bool true]) ∧ Drawn0 W w' := by
 have h0 := Int.mul_nonneg ha hb
 have T1 := Aside0.mk (time_eval ha (by omega))
 have T2 := Aside0.mk (time_eval hb (by omega))
 have hw : IntKind.i64.wrap (a * b) = a * b := (i64_w _).trans (w64_ok (by omega) (by omega))
 have HD := Aside0.mk (Drawn0.refl W)
 by_cases hz : 0 < b
 ·have c1 : decide (0 < b) = true := decide_eq_true hz
  have hb0 : b ≠ 0 := by omega
  obtain ⟨q, hq⟩ : ∃ q, Int.tdiv 4611686018427387904 b = q := ⟨_, rfl⟩
  have hq2 : a ≤ q := by
   rw [← hq, Int.tdiv_eq_ediv_of_nonneg (by decide)]
   exact (Int.le_ediv_iff_mul_le hz).2 (by omega)
  have hq3 : q ≤ 4611686018427387904 := by
   rw [← hq, Int.tdiv_eq_ediv_of_nonneg (by decide)]
   exact Int.ediv_le_self _ (by decide)
  have hwq : IntKind.i64.wrap (Int.tdiv 4611686018427387904 b) = q := by rw [hq]; exact (i64_w _).trans (w64_ok (by omega) (by omega))
  have c2 : decide (q < a) = false := decide_eq_false (by omega)
  clear ha ha2 hb hb2 h h0 hz hq hq2 hq3
  go_enter Tryd.func39, Tryd.ntmps39
  go_wp2_with fail
  refine (tick_time.calls a true _ T1.out).mono ?_
  rintro e w1 ⟨rfl, hd1⟩
  have HD1 := Aside0.mk hd1
  clear hd1
  go_wp2_with fail
  refine (tick_time.calls b true _ T2.out).mono ?_
  rintro e w2 ⟨rfl, hd2⟩
  have HD2 := Aside0.mk hd2
  clear hd2
  go_wp2_with fail
  go_ret2
  obtain ⟨n1, rfl⟩ := HD1.out
  obtain ⟨n2, rfl⟩ := HD2.out
  exact ⟨rfl, ⟨⟨n1 + n2, by first | rfl | simp [World.drewN_drewN]⟩⟩⟩
 ·have c1 : decide (0 < b) = false := decide_eq_false hz
  clear ha ha2 hb hb2 h h0 hz
  go_enter Tryd.func39, Tryd.ntmps39
  go_wp2_with fail
  refine (tick_time.calls a true _ T1.out).mono ?_
  rintro e w1 ⟨rfl, hd1⟩
  have HD1 := Aside0.mk hd1
  clear hd1
  go_wp2_with fail
  refine (tick_time.calls b true _ T2.out).mono ?_
  rintro e w2 ⟨rfl, hd2⟩
  have HD2 := Aside0.mk hd2
  clear hd2
  go_wp2_with fail
  go_ret2
  obtain ⟨n1, rfl⟩ := HD1.out
  obtain ⟨n2, rfl⟩ := HD2.out
  exact ⟨rfl, ⟨⟨n1 + n2, by first | rfl | simp [World.drewN_drewN]⟩⟩⟩
end Go.Proofs.YtefenbhcbpfihaaDoor.Q

-- fix.Next's closure adds one more part to the sum (walked by hand).
namespace Go.Proofs.YtefenbhcbpfihaaDoor.Q
open Go.RowKit Go.Proofs.YtefenbhcbpfihaaDoorW.PrintWords Go.Proofs.YtefenbhcbpfihaaDoorW.PrintLast Go.Proofs.YtefenbhcbpfihaaDoorW.PrintMore
attribute [local go_sem] max2_int min2_int max_two min_two max_three min_three max_four min_four   -- for this text's walks alone
set_option linter.unusedVariables false
set_option linter.unusedSimpArgs false

set_option maxHeartbeats 4000000 in
set_option maxRecDepth 100000 in
theorem add_ask (gp : Nat) (v : Value) (ps : List Int) (n each : Int) (w0 W : World) (hG : W.heap[gp]? = some (.cells #[v] 28 (0, 0))) (hR : Kd.R (Kd.int .i64) 3 W w0.heap.size (fun _ => True) v ps) (hB : Below w0.heap.size w0 W) (hgp : w0.heap.size ≤ gp)
  (h0 : 0 ≤ n) (h1 : n ≤ 1000000000000000000) (h2 : 0 ≤ each) (h3 : each ≤ 1000000000000000000) (h4 : n * each ≤ 1000000000000000000) (hl : ps.length ≤ 1000) :
  Calls Tryd.prog 38 #[.int .i64 n, .int .i64 each, .pointer (some ⟨gp, 0, none⟩)] W fun e W' => e = .returned (.bool true) ∧ Below w0.heap.size w0 W' ∧ (∃ v', W'.heap[gp]? = some (.cells #[v'] 28 (0, 0)) ∧ Kd.R (Kd.int .i64) 3 W' w0.heap.size (fun _ => True) v' (ps ++ [n * each])) ∧
   (∀ (g : Nat) (t : TypeId) (cs : Array Value), W.heap[g]? = some (.cells cs t (0, 0)) → t ≠ 3 → g ≠ gp → W'.heap[g]? = some (.cells cs t (0, 0))) := by
 have HG := Aside0.mk hG
 have HR := Aside0.mk hR
 have HB := Aside0.mk hB
 have HM := Aside0.mk (mul_ask h0 h1 h2 h3 h4)
 clear hG hR hB h0 h1 h2 h3 h4
 go_enter Tryd.func38, Tryd.ntmps38
 go_wp2_with fail
 refine (HM.out _).mono ?_
 rintro e w1 ⟨rfl, hb⟩
 have HW1 := Aside0.mk hb.below
 have HG1 := Aside0.mk (blk_below HG.out hb.below)
 have HR1 := Aside0.mk (Kd.R_below HR.out hb.below)
 have HB1 := Aside0.mk (below_step HB.out hb.below)
 have y0 : w1.cell? ⟨gp, 0, none⟩ = some v := blk_cell HG1.out 0
 obtain ⟨m, hm⟩ : ∃ m, n * each = m := ⟨_, rfl⟩
 have HM2 := Aside0.mk hm
 rw [hm]
 clear hb hm HM
 go_wp2_with (first | ((with_reducible refine gate_builtin (b := .append) (xs := #[.tmp 14, .tmp 16]) rfl ?_); at_builtin; refine Kd.R_append (Kd.int .i64) (w0 := w0) w0.heap.size rfl (.tmp 14) (.tmp 16) 28 3 (.int .i64 0) 8 rfl Tryd.underlying28 fix_infoI rfl (by decide) (by omega) v ps m [.int .i64 m] (fun _ => True) (fun _ => False) rfl rfl ?aP (fun _ hk => hk.elim) ?aF ?aO ?aB ?aS ?aL ?_))
 case aP => exact rfl
 case aF => exact (fun _ _ => trivial)
 case aO => exact HR1.out
 case aB => exact HB1.out
 case aS => exact HB1.out.size
 case aL => omega
 intro v2 w2 hR2 hb2 hg2 hat2
 have HG2 := Aside0.mk (blk_grown HG1.out hg2 (Kd.R_ne HR1.out HG1.out (by decide)))
 have HK2 : Aside0 (∀ (g : Nat) (t : TypeId) (cs : Array Value), w1.heap[g]? = some (.cells cs t (0, 0)) → t ≠ 3 → w2.heap[g]? = some (.cells cs t (0, 0))) := ⟨fun g t cs hg ht => blk_grown hg hg2 (Kd.R_ne HR1.out hg (fun e => ht e.symm))⟩
 obtain ⟨A2, c2, rfl, -, -⟩ := Kd.R_reads hR2
 rw [show (ps ++ [m]).length = ps.length + 1 by simp] at hR2 ⊢
 have HR2 := Aside0.mk hR2
 have HB2 := Aside0.mk hb2
 have z0 : w2.cell? ⟨gp, 0, none⟩ = some v := blk_cell HG2.out 0
 have z1 := blk_frozen HG2.out 0
 clear hR2 hb2 hg2 hat2
 go_wp2_with fail
 go_ret
 rw [HM2.out]
 refine ⟨rfl, HB2.out.setCell hgp _, ⟨_, blk_put HG2.out 0 _ rfl, Kd.R_set HR2.out HG2.out (by decide) 0 _⟩, fun g t cs hg ht hne => ?_⟩
 exact (Below.heap_setCell w2 ⟨gp, 0, none⟩ _ g hne).trans (HK2.out g t cs (blk_below hg HW1.out) ht)
end Go.Proofs.YtefenbhcbpfihaaDoor.Q

-- Written for this claim by the session's own driver (wip/qprint.py) over the kit's printer, out of the translation. Not trusted: Lean checks it.
namespace Go.Proofs.YtefenbhcbpfihaaDoor.Q
open Go.RowKit Go.Proofs.YtefenbhcbpfihaaDoorW.PrintWords Go.Proofs.YtefenbhcbpfihaaDoorW.PrintLast Go.Proofs.YtefenbhcbpfihaaDoorW.PrintMore
attribute [local go_sem] max2_int min2_int max_two min_two max_three min_three max_four min_four   -- for this text's walks alone
set_option linter.unusedVariables false
set_option linter.unusedSimpArgs false

/-! ### task_in: function 32 -/
def task_in.f (a0 : Int) (a1 : Int) (a2 : Int) : Option (Bool) := if a0 ≥ a1 then (some (decide (a0 ≤ a2))) else (some false)
set_option maxHeartbeats 8000000 in
set_option maxRecDepth 100000 in
theorem task_in.calls (a0 : Int) (a1 : Int) (a2 : Int) (r : Bool) (w : World) (h : task_in.f a0 a1 a2 = some r) :
  Calls Tryd.prog 32 #[.int .i64 a0, .int .i64 a1, .int .i64 a2] w fun e w' => e = .returned (.bool r) ∧ Drawn0 w w' := by
 have H : (if a0 ≥ a1 then (some (decide (a0 ≤ a2))) else (some false)) = some r := h
 clear h
 by_cases c4 : a0 ≥ a1
 ·rw [if_pos c4] at H
  have c4b0 : decide (a1 ≤ a0) = true := decide_eq_true c4
  clear c4
  obtain rfl := Option.some.inj H
  go_enter Tryd.func32, Tryd.ntmps32
  go_wp2
  go_ret
  exact ⟨by first | rfl | (simp; done) | (simp [*]; done), by repeat (first | exact Drawn0.refl _ | apply Drawn0.step)⟩
 ·rw [if_neg c4] at H
  have c4b0 : decide (a1 ≤ a0) = false := decide_eq_false c4
  clear c4
  obtain rfl := Option.some.inj H
  go_enter Tryd.func32, Tryd.ntmps32
  go_wp2
  go_ret
  exact ⟨by first | rfl | (simp; done) | (simp [*]; done), by repeat (first | exact Drawn0.refl _ | apply Drawn0.step)⟩

/-! ### task_timed: function 45 -/
def task_timed.f (a0_0 : ByteArray) (a0_1 : Int) (a0_2 : Int) (a0_3 : Int) (a0_4 : Int) (a0_5 : Int) (a0_6 : Int) (a0_7 : Int) (a0_8 : Int) (a0_9 : Int) (a0_10 : Int) (l1 : List (S39)) : Option (Bool) := (task_in.f a0_1 1 1048576).bind fun t102 => (if t102 = true then ((task_in.f a0_2 1 a0_1).bind fun t103 => (if t103 = true then ((task_in.f a0_3 1 a0_2).bind fun t104 => (if t104 = true then ((task_in.f a0_6 0 1000).bind fun t105 => (some t105)) else (some false))) else (some false))) else (some false))
set_option maxHeartbeats 8000000 in
set_option maxRecDepth 100000 in
theorem task_timed.calls (a0_0 : ByteArray) (a0_1 : Int) (a0_2 : Int) (a0_3 : Int) (a0_4 : Int) (a0_5 : Int) (a0_6 : Int) (a0_7 : Int) (a0_8 : Int) (a0_9 : Int) (a0_10 : Int) (A1 : Option Addr) (c1 : Nat) (l1 : List (S39)) (r : Bool) (w : World) (hr1 : Kd.C k39 w A1 l1.length l1) (hc1 : l1.length ≤ c1) (h : task_timed.f a0_0 a0_1 a0_2 a0_3 a0_4 a0_5 a0_6 a0_7 a0_8 a0_9 a0_10 l1 = some r) :
  Calls Tryd.prog 45 #[.agg #[.string a0_0, .int .i64 a0_1, .int .i64 a0_2, .int .i64 a0_3, .int .i64 a0_4, .int .i64 a0_5, .int .i64 a0_6, .int .i64 a0_7, .int .i64 a0_8, .int .i64 a0_9, .int .i64 a0_10], .slice A1 l1.length c1] w fun e w' => e = .returned (.bool r) ∧ Below w.heap.size w w' := by
 have hu39 := Tryd.underlying39
 have HR1 := Aside0.mk hr1
 have HC1 := Aside0.mk hc1
 clear hr1 hc1
 have HB := Aside0.mk (Below.refl w.heap.size w)
 have H : ((task_in.f a0_1 1 1048576).bind fun t102 => (if t102 = true then ((task_in.f a0_2 1 a0_1).bind fun t103 => (if t103 = true then ((task_in.f a0_3 1 a0_2).bind fun t104 => (if t104 = true then ((task_in.f a0_6 0 1000).bind fun t105 => (some t105)) else (some false))) else (some false))) else (some false))) = some r := h
 clear h
 replace H := Option.bind_eq_some_iff.mp H
 obtain ⟨t102, A30, H⟩ := H
 replace H : (if t102 = true then ((task_in.f a0_2 1 a0_1).bind fun t103 => (if t103 = true then ((task_in.f a0_3 1 a0_2).bind fun t104 => (if t104 = true then ((task_in.f a0_6 0 1000).bind fun t105 => (some t105)) else (some false))) else (some false))) else (some false)) = some r := H
 have A3 := Aside0.mk A30
 clear A30
 by_cases c4 : t102 = true
 ·subst c4
  have H1 : ((task_in.f a0_2 1 a0_1).bind fun t103 => (if t103 = true then ((task_in.f a0_3 1 a0_2).bind fun t104 => (if t104 = true then ((task_in.f a0_6 0 1000).bind fun t105 => (some t105)) else (some false))) else (some false))) = some r := by rw [if_pos rfl] at H; exact H
  clear H
  have H := H1
  clear H1
  replace H := Option.bind_eq_some_iff.mp H
  obtain ⟨t103, A50, H⟩ := H
  replace H : (if t103 = true then ((task_in.f a0_3 1 a0_2).bind fun t104 => (if t104 = true then ((task_in.f a0_6 0 1000).bind fun t105 => (some t105)) else (some false))) else (some false)) = some r := H
  have A5 := Aside0.mk A50
  clear A50
  by_cases c6 : t103 = true
  ·subst c6
   have H1 : ((task_in.f a0_3 1 a0_2).bind fun t104 => (if t104 = true then ((task_in.f a0_6 0 1000).bind fun t105 => (some t105)) else (some false))) = some r := by rw [if_pos rfl] at H; exact H
   clear H
   have H := H1
   clear H1
   replace H := Option.bind_eq_some_iff.mp H
   obtain ⟨t104, A70, H⟩ := H
   replace H : (if t104 = true then ((task_in.f a0_6 0 1000).bind fun t105 => (some t105)) else (some false)) = some r := H
   have A7 := Aside0.mk A70
   clear A70
   by_cases c8 : t104 = true
   ·subst c8
    have H1 : ((task_in.f a0_6 0 1000).bind fun t105 => (some t105)) = some r := by rw [if_pos rfl] at H; exact H
    clear H
    have H := H1
    clear H1
    replace H := Option.bind_eq_some_iff.mp H
    obtain ⟨t105, A90, H⟩ := H
    replace H : (some t105) = some r := H
    have A9 := Aside0.mk A90
    clear A90
    obtain rfl := Option.some.inj H
    go_enter Tryd.func45, Tryd.ntmps45
    go_wp2_with (first | ((with_reducible refine gate_dst (N := 2) rfl ?_); refine box_event ?hg (N := 2) ?hd (cs := #[.string a0_0, .int .i64 a0_1, .int .i64 a0_2, .int .i64 a0_3, .int .i64 a0_4, .int .i64 a0_5, .int .i64 a0_6, .int .i64 a0_7, .int .i64 a0_8, .int .i64 a0_9, .int .i64 a0_10]) (t := 39) ?hr ?_; (case hd => rfl); (case hg => rfl); (case hr => first | (go_simp; done) | (go_simp; rfl)); intro gb101 hg w10 hbox hb; have n0_ := Aside0.mk (below_step (by repeat (first | (with_reducible first | exact HB.out | apply below_alloc | apply pw_below_drewN | apply below_drew1) | exact HB.out)) hb); have n1_ := Aside0.mk (hbox); have n2_ := Aside0.mk ((by rw [hg]; exact (below_size (by repeat (first | (with_reducible first | exact HB.out | apply below_alloc | apply pw_below_drewN | apply below_drew1) | exact HB.out))) : w.heap.size ≤ gb101)); have n3_ := Aside0.mk ((by rw [hg]; exact (below_size (by repeat (first | (with_reducible first | exact HB.out | apply below_alloc | apply pw_below_drewN | apply below_drew1) | exact HB.out))) : w.heap.size ≤ gb101)); clear HB; have HB := n0_; have BK101 := n1_; have GW101 := n2_; have GE101 := n3_; clear n0_ n1_ n2_ n3_; clear hb hbox hg; have hcz11_0 : w10.cell? ⟨gb101, 0, none⟩ = some (.string a0_0) := (blk_cell BK101.out 0).trans rfl; have hcz11_1 : w10.cell? ⟨gb101, 1, none⟩ = some (.int .i64 a0_1) := (blk_cell BK101.out 1).trans rfl; have hcz11_2 : w10.cell? ⟨gb101, 2, none⟩ = some (.int .i64 a0_2) := (blk_cell BK101.out 2).trans rfl; have hcz11_3 : w10.cell? ⟨gb101, 3, none⟩ = some (.int .i64 a0_3) := (blk_cell BK101.out 3).trans rfl; have hcz11_4 : w10.cell? ⟨gb101, 4, none⟩ = some (.int .i64 a0_4) := (blk_cell BK101.out 4).trans rfl; have hcz11_5 : w10.cell? ⟨gb101, 5, none⟩ = some (.int .i64 a0_5) := (blk_cell BK101.out 5).trans rfl; have hcz11_6 : w10.cell? ⟨gb101, 6, none⟩ = some (.int .i64 a0_6) := (blk_cell BK101.out 6).trans rfl; have hcz11_7 : w10.cell? ⟨gb101, 7, none⟩ = some (.int .i64 a0_7) := (blk_cell BK101.out 7).trans rfl; have hcz11_8 : w10.cell? ⟨gb101, 8, none⟩ = some (.int .i64 a0_8) := (blk_cell BK101.out 8).trans rfl; have hcz11_9 : w10.cell? ⟨gb101, 9, none⟩ = some (.int .i64 a0_9) := (blk_cell BK101.out 9).trans rfl; have hcz11_10 : w10.cell? ⟨gb101, 10, none⟩ = some (.int .i64 a0_10) := (blk_cell BK101.out 10).trans rfl; have hfz11_0 := blk_frozen BK101.out 0; have hfz11_1 := blk_frozen BK101.out 1; have hfz11_2 := blk_frozen BK101.out 2; have hfz11_3 := blk_frozen BK101.out 3; have hfz11_4 := blk_frozen BK101.out 4; have hfz11_5 := blk_frozen BK101.out 5; have hfz11_6 := blk_frozen BK101.out 6; have hfz11_7 := blk_frozen BK101.out 7; have hfz11_8 := blk_frozen BK101.out 8; have hfz11_9 := blk_frozen BK101.out 9; have hfz11_10 := blk_frozen BK101.out 10) | ((with_reducible refine gate_callee (f := 32) rfl ?_); refine goesL_ (some 7) rfl rfl Tryd.func32 (by kernel_rfl) rfl #[.int .i64 a0_1, .int .i64 1, .int .i64 1048576] rfl (by (try simp only [List.map_toArray, List.map_cons, List.map_nil]); first | done | rfl | (simp only [List.length_drop, List.length_take]; rfl)) ?_; (with_reducible refine (task_in.calls a0_1 1 1048576 true _ A3.out).mono ?_); rintro e w' ⟨rfl, ⟨nd, rfl⟩⟩; refine ⟨_, rfl, ?_⟩; (try clear A3)) | (go_at_call 32; (with_reducible refine (task_in.calls a0_2 1 a0_1 true _ A5.out).mono ?_); rintro e w' ⟨rfl, ⟨nd, rfl⟩⟩; (try clear A5)) | (go_at_call 32; (with_reducible refine (task_in.calls a0_3 1 a0_2 true _ A7.out).mono ?_); rintro e w' ⟨rfl, ⟨nd, rfl⟩⟩; (try clear A7)) | (go_at_call 32; (with_reducible refine (task_in.calls a0_6 0 1000 t105 _ A9.out).mono ?_); rintro e w' ⟨rfl, ⟨nd, rfl⟩⟩))
    go_ret
    exact ⟨by first | rfl | (simp [errW_none, errW_some] <;> rfl) | (simp [*, errW_none, errW_some] <;> rfl), by repeat (first | (with_reducible first | exact HB.out | apply below_alloc | apply pw_below_drewN | apply below_drew1 | refine below_set ?_ GE101.out) | exact HB.out)⟩
   ·replace c8 := Bool.eq_false_iff.mpr c8
    subst c8
    have H1 : (some false) = some r := by rw [if_neg (show ¬ (false = true) by decide)] at H; exact H
    clear H
    have H := H1
    clear H1
    obtain rfl := Option.some.inj H
    go_enter Tryd.func45, Tryd.ntmps45
    go_wp2_with (first | ((with_reducible refine gate_dst (N := 2) rfl ?_); refine box_event ?hg (N := 2) ?hd (cs := #[.string a0_0, .int .i64 a0_1, .int .i64 a0_2, .int .i64 a0_3, .int .i64 a0_4, .int .i64 a0_5, .int .i64 a0_6, .int .i64 a0_7, .int .i64 a0_8, .int .i64 a0_9, .int .i64 a0_10]) (t := 39) ?hr ?_; (case hd => rfl); (case hg => rfl); (case hr => first | (go_simp; done) | (go_simp; rfl)); intro gb101 hg w12 hbox hb; have n0_ := Aside0.mk (below_step (by repeat (first | (with_reducible first | exact HB.out | apply below_alloc | apply pw_below_drewN | apply below_drew1) | exact HB.out)) hb); have n1_ := Aside0.mk (hbox); have n2_ := Aside0.mk ((by rw [hg]; exact (below_size (by repeat (first | (with_reducible first | exact HB.out | apply below_alloc | apply pw_below_drewN | apply below_drew1) | exact HB.out))) : w.heap.size ≤ gb101)); have n3_ := Aside0.mk ((by rw [hg]; exact (below_size (by repeat (first | (with_reducible first | exact HB.out | apply below_alloc | apply pw_below_drewN | apply below_drew1) | exact HB.out))) : w.heap.size ≤ gb101)); clear HB; have HB := n0_; have BK101 := n1_; have GW101 := n2_; have GE101 := n3_; clear n0_ n1_ n2_ n3_; clear hb hbox hg; have hcz13_0 : w12.cell? ⟨gb101, 0, none⟩ = some (.string a0_0) := (blk_cell BK101.out 0).trans rfl; have hcz13_1 : w12.cell? ⟨gb101, 1, none⟩ = some (.int .i64 a0_1) := (blk_cell BK101.out 1).trans rfl; have hcz13_2 : w12.cell? ⟨gb101, 2, none⟩ = some (.int .i64 a0_2) := (blk_cell BK101.out 2).trans rfl; have hcz13_3 : w12.cell? ⟨gb101, 3, none⟩ = some (.int .i64 a0_3) := (blk_cell BK101.out 3).trans rfl; have hcz13_4 : w12.cell? ⟨gb101, 4, none⟩ = some (.int .i64 a0_4) := (blk_cell BK101.out 4).trans rfl; have hcz13_5 : w12.cell? ⟨gb101, 5, none⟩ = some (.int .i64 a0_5) := (blk_cell BK101.out 5).trans rfl; have hcz13_6 : w12.cell? ⟨gb101, 6, none⟩ = some (.int .i64 a0_6) := (blk_cell BK101.out 6).trans rfl; have hcz13_7 : w12.cell? ⟨gb101, 7, none⟩ = some (.int .i64 a0_7) := (blk_cell BK101.out 7).trans rfl; have hcz13_8 : w12.cell? ⟨gb101, 8, none⟩ = some (.int .i64 a0_8) := (blk_cell BK101.out 8).trans rfl; have hcz13_9 : w12.cell? ⟨gb101, 9, none⟩ = some (.int .i64 a0_9) := (blk_cell BK101.out 9).trans rfl; have hcz13_10 : w12.cell? ⟨gb101, 10, none⟩ = some (.int .i64 a0_10) := (blk_cell BK101.out 10).trans rfl; have hfz13_0 := blk_frozen BK101.out 0; have hfz13_1 := blk_frozen BK101.out 1; have hfz13_2 := blk_frozen BK101.out 2; have hfz13_3 := blk_frozen BK101.out 3; have hfz13_4 := blk_frozen BK101.out 4; have hfz13_5 := blk_frozen BK101.out 5; have hfz13_6 := blk_frozen BK101.out 6; have hfz13_7 := blk_frozen BK101.out 7; have hfz13_8 := blk_frozen BK101.out 8; have hfz13_9 := blk_frozen BK101.out 9; have hfz13_10 := blk_frozen BK101.out 10) | ((with_reducible refine gate_callee (f := 32) rfl ?_); refine goesL_ (some 7) rfl rfl Tryd.func32 (by kernel_rfl) rfl #[.int .i64 a0_1, .int .i64 1, .int .i64 1048576] rfl (by (try simp only [List.map_toArray, List.map_cons, List.map_nil]); first | done | rfl | (simp only [List.length_drop, List.length_take]; rfl)) ?_; (with_reducible refine (task_in.calls a0_1 1 1048576 true _ A3.out).mono ?_); rintro e w' ⟨rfl, ⟨nd, rfl⟩⟩; refine ⟨_, rfl, ?_⟩; (try clear A3)) | (go_at_call 32; (with_reducible refine (task_in.calls a0_2 1 a0_1 true _ A5.out).mono ?_); rintro e w' ⟨rfl, ⟨nd, rfl⟩⟩; (try clear A5)) | (go_at_call 32; (with_reducible refine (task_in.calls a0_3 1 a0_2 false _ A7.out).mono ?_); rintro e w' ⟨rfl, ⟨nd, rfl⟩⟩))
    go_ret
    exact ⟨by first | rfl | (simp [errW_none, errW_some] <;> rfl) | (simp [*, errW_none, errW_some] <;> rfl), by repeat (first | (with_reducible first | exact HB.out | apply below_alloc | apply pw_below_drewN | apply below_drew1 | refine below_set ?_ GE101.out) | exact HB.out)⟩
  ·replace c6 := Bool.eq_false_iff.mpr c6
   subst c6
   have H1 : (some false) = some r := by rw [if_neg (show ¬ (false = true) by decide)] at H; exact H
   clear H
   have H := H1
   clear H1
   obtain rfl := Option.some.inj H
   go_enter Tryd.func45, Tryd.ntmps45
   go_wp2_with (first | ((with_reducible refine gate_dst (N := 2) rfl ?_); refine box_event ?hg (N := 2) ?hd (cs := #[.string a0_0, .int .i64 a0_1, .int .i64 a0_2, .int .i64 a0_3, .int .i64 a0_4, .int .i64 a0_5, .int .i64 a0_6, .int .i64 a0_7, .int .i64 a0_8, .int .i64 a0_9, .int .i64 a0_10]) (t := 39) ?hr ?_; (case hd => rfl); (case hg => rfl); (case hr => first | (go_simp; done) | (go_simp; rfl)); intro gb101 hg w14 hbox hb; have n0_ := Aside0.mk (below_step (by repeat (first | (with_reducible first | exact HB.out | apply below_alloc | apply pw_below_drewN | apply below_drew1) | exact HB.out)) hb); have n1_ := Aside0.mk (hbox); have n2_ := Aside0.mk ((by rw [hg]; exact (below_size (by repeat (first | (with_reducible first | exact HB.out | apply below_alloc | apply pw_below_drewN | apply below_drew1) | exact HB.out))) : w.heap.size ≤ gb101)); have n3_ := Aside0.mk ((by rw [hg]; exact (below_size (by repeat (first | (with_reducible first | exact HB.out | apply below_alloc | apply pw_below_drewN | apply below_drew1) | exact HB.out))) : w.heap.size ≤ gb101)); clear HB; have HB := n0_; have BK101 := n1_; have GW101 := n2_; have GE101 := n3_; clear n0_ n1_ n2_ n3_; clear hb hbox hg; have hcz15_0 : w14.cell? ⟨gb101, 0, none⟩ = some (.string a0_0) := (blk_cell BK101.out 0).trans rfl; have hcz15_1 : w14.cell? ⟨gb101, 1, none⟩ = some (.int .i64 a0_1) := (blk_cell BK101.out 1).trans rfl; have hcz15_2 : w14.cell? ⟨gb101, 2, none⟩ = some (.int .i64 a0_2) := (blk_cell BK101.out 2).trans rfl; have hcz15_3 : w14.cell? ⟨gb101, 3, none⟩ = some (.int .i64 a0_3) := (blk_cell BK101.out 3).trans rfl; have hcz15_4 : w14.cell? ⟨gb101, 4, none⟩ = some (.int .i64 a0_4) := (blk_cell BK101.out 4).trans rfl; have hcz15_5 : w14.cell? ⟨gb101, 5, none⟩ = some (.int .i64 a0_5) := (blk_cell BK101.out 5).trans rfl; have hcz15_6 : w14.cell? ⟨gb101, 6, none⟩ = some (.int .i64 a0_6) := (blk_cell BK101.out 6).trans rfl; have hcz15_7 : w14.cell? ⟨gb101, 7, none⟩ = some (.int .i64 a0_7) := (blk_cell BK101.out 7).trans rfl; have hcz15_8 : w14.cell? ⟨gb101, 8, none⟩ = some (.int .i64 a0_8) := (blk_cell BK101.out 8).trans rfl; have hcz15_9 : w14.cell? ⟨gb101, 9, none⟩ = some (.int .i64 a0_9) := (blk_cell BK101.out 9).trans rfl; have hcz15_10 : w14.cell? ⟨gb101, 10, none⟩ = some (.int .i64 a0_10) := (blk_cell BK101.out 10).trans rfl; have hfz15_0 := blk_frozen BK101.out 0; have hfz15_1 := blk_frozen BK101.out 1; have hfz15_2 := blk_frozen BK101.out 2; have hfz15_3 := blk_frozen BK101.out 3; have hfz15_4 := blk_frozen BK101.out 4; have hfz15_5 := blk_frozen BK101.out 5; have hfz15_6 := blk_frozen BK101.out 6; have hfz15_7 := blk_frozen BK101.out 7; have hfz15_8 := blk_frozen BK101.out 8; have hfz15_9 := blk_frozen BK101.out 9; have hfz15_10 := blk_frozen BK101.out 10) | ((with_reducible refine gate_callee (f := 32) rfl ?_); refine goesL_ (some 7) rfl rfl Tryd.func32 (by kernel_rfl) rfl #[.int .i64 a0_1, .int .i64 1, .int .i64 1048576] rfl (by (try simp only [List.map_toArray, List.map_cons, List.map_nil]); first | done | rfl | (simp only [List.length_drop, List.length_take]; rfl)) ?_; (with_reducible refine (task_in.calls a0_1 1 1048576 true _ A3.out).mono ?_); rintro e w' ⟨rfl, ⟨nd, rfl⟩⟩; refine ⟨_, rfl, ?_⟩; (try clear A3)) | (go_at_call 32; (with_reducible refine (task_in.calls a0_2 1 a0_1 false _ A5.out).mono ?_); rintro e w' ⟨rfl, ⟨nd, rfl⟩⟩))
   go_ret
   exact ⟨by first | rfl | (simp [errW_none, errW_some] <;> rfl) | (simp [*, errW_none, errW_some] <;> rfl), by repeat (first | (with_reducible first | exact HB.out | apply below_alloc | apply pw_below_drewN | apply below_drew1 | refine below_set ?_ GE101.out) | exact HB.out)⟩
 ·replace c4 := Bool.eq_false_iff.mpr c4
  subst c4
  have H1 : (some false) = some r := by rw [if_neg (show ¬ (false = true) by decide)] at H; exact H
  clear H
  have H := H1
  clear H1
  obtain rfl := Option.some.inj H
  go_enter Tryd.func45, Tryd.ntmps45
  go_wp2_with (first | ((with_reducible refine gate_dst (N := 2) rfl ?_); refine box_event ?hg (N := 2) ?hd (cs := #[.string a0_0, .int .i64 a0_1, .int .i64 a0_2, .int .i64 a0_3, .int .i64 a0_4, .int .i64 a0_5, .int .i64 a0_6, .int .i64 a0_7, .int .i64 a0_8, .int .i64 a0_9, .int .i64 a0_10]) (t := 39) ?hr ?_; (case hd => rfl); (case hg => rfl); (case hr => first | (go_simp; done) | (go_simp; rfl)); intro gb101 hg w16 hbox hb; have n0_ := Aside0.mk (below_step (by repeat (first | (with_reducible first | exact HB.out | apply below_alloc | apply pw_below_drewN | apply below_drew1) | exact HB.out)) hb); have n1_ := Aside0.mk (hbox); have n2_ := Aside0.mk ((by rw [hg]; exact (below_size (by repeat (first | (with_reducible first | exact HB.out | apply below_alloc | apply pw_below_drewN | apply below_drew1) | exact HB.out))) : w.heap.size ≤ gb101)); have n3_ := Aside0.mk ((by rw [hg]; exact (below_size (by repeat (first | (with_reducible first | exact HB.out | apply below_alloc | apply pw_below_drewN | apply below_drew1) | exact HB.out))) : w.heap.size ≤ gb101)); clear HB; have HB := n0_; have BK101 := n1_; have GW101 := n2_; have GE101 := n3_; clear n0_ n1_ n2_ n3_; clear hb hbox hg; have hcz17_0 : w16.cell? ⟨gb101, 0, none⟩ = some (.string a0_0) := (blk_cell BK101.out 0).trans rfl; have hcz17_1 : w16.cell? ⟨gb101, 1, none⟩ = some (.int .i64 a0_1) := (blk_cell BK101.out 1).trans rfl; have hcz17_2 : w16.cell? ⟨gb101, 2, none⟩ = some (.int .i64 a0_2) := (blk_cell BK101.out 2).trans rfl; have hcz17_3 : w16.cell? ⟨gb101, 3, none⟩ = some (.int .i64 a0_3) := (blk_cell BK101.out 3).trans rfl; have hcz17_4 : w16.cell? ⟨gb101, 4, none⟩ = some (.int .i64 a0_4) := (blk_cell BK101.out 4).trans rfl; have hcz17_5 : w16.cell? ⟨gb101, 5, none⟩ = some (.int .i64 a0_5) := (blk_cell BK101.out 5).trans rfl; have hcz17_6 : w16.cell? ⟨gb101, 6, none⟩ = some (.int .i64 a0_6) := (blk_cell BK101.out 6).trans rfl; have hcz17_7 : w16.cell? ⟨gb101, 7, none⟩ = some (.int .i64 a0_7) := (blk_cell BK101.out 7).trans rfl; have hcz17_8 : w16.cell? ⟨gb101, 8, none⟩ = some (.int .i64 a0_8) := (blk_cell BK101.out 8).trans rfl; have hcz17_9 : w16.cell? ⟨gb101, 9, none⟩ = some (.int .i64 a0_9) := (blk_cell BK101.out 9).trans rfl; have hcz17_10 : w16.cell? ⟨gb101, 10, none⟩ = some (.int .i64 a0_10) := (blk_cell BK101.out 10).trans rfl; have hfz17_0 := blk_frozen BK101.out 0; have hfz17_1 := blk_frozen BK101.out 1; have hfz17_2 := blk_frozen BK101.out 2; have hfz17_3 := blk_frozen BK101.out 3; have hfz17_4 := blk_frozen BK101.out 4; have hfz17_5 := blk_frozen BK101.out 5; have hfz17_6 := blk_frozen BK101.out 6; have hfz17_7 := blk_frozen BK101.out 7; have hfz17_8 := blk_frozen BK101.out 8; have hfz17_9 := blk_frozen BK101.out 9; have hfz17_10 := blk_frozen BK101.out 10) | ((with_reducible refine gate_callee (f := 32) rfl ?_); refine goesL_ (some 7) rfl rfl Tryd.func32 (by kernel_rfl) rfl #[.int .i64 a0_1, .int .i64 1, .int .i64 1048576] rfl (by (try simp only [List.map_toArray, List.map_cons, List.map_nil]); first | done | rfl | (simp only [List.length_drop, List.length_take]; rfl)) ?_; (with_reducible refine (task_in.calls a0_1 1 1048576 false _ A3.out).mono ?_); rintro e w' ⟨rfl, ⟨nd, rfl⟩⟩; refine ⟨_, rfl, ?_⟩))
  go_ret
  exact ⟨by first | rfl | (simp [errW_none, errW_some] <;> rfl) | (simp [*, errW_none, errW_some] <;> rfl), by repeat (first | (with_reducible first | exact HB.out | apply below_alloc | apply pw_below_drewN | apply below_drew1 | refine below_set ?_ GE101.out) | exact HB.out)⟩

/-! ### task_moded: function 46 -/
def task_moded.f (a0_0 : ByteArray) (a0_1 : Int) (a0_2 : Int) (a0_3 : Int) (a0_4 : Int) (a0_5 : Int) (a0_6 : Int) (a0_7 : Int) (a0_8 : Int) (a0_9 : Int) (a0_10 : Int) (l1 : List (S39)) : Option (Bool) := if a0_9 = 1 then ((task_in.f a0_5 1 a0_3).bind fun t107 => (if t107 = true then (some (a0_4 == 0)) else (some false))) else ((task_in.f a0_9 2 3).bind fun t108 => (if t108 = true then ((task_in.f a0_4 1 a0_2).bind fun t109 => (if t109 = true then (some (a0_5 == 0)) else (some false))) else (some false)))
set_option maxHeartbeats 8000000 in
set_option maxRecDepth 100000 in
theorem task_moded.calls (a0_0 : ByteArray) (a0_1 : Int) (a0_2 : Int) (a0_3 : Int) (a0_4 : Int) (a0_5 : Int) (a0_6 : Int) (a0_7 : Int) (a0_8 : Int) (a0_9 : Int) (a0_10 : Int) (A1 : Option Addr) (c1 : Nat) (l1 : List (S39)) (r : Bool) (w : World) (hr1 : Kd.C k39 w A1 l1.length l1) (hc1 : l1.length ≤ c1) (h : task_moded.f a0_0 a0_1 a0_2 a0_3 a0_4 a0_5 a0_6 a0_7 a0_8 a0_9 a0_10 l1 = some r) :
  Calls Tryd.prog 46 #[.agg #[.string a0_0, .int .i64 a0_1, .int .i64 a0_2, .int .i64 a0_3, .int .i64 a0_4, .int .i64 a0_5, .int .i64 a0_6, .int .i64 a0_7, .int .i64 a0_8, .int .i64 a0_9, .int .i64 a0_10], .slice A1 l1.length c1] w fun e w' => e = .returned (.bool r) ∧ Below w.heap.size w w' := by
 have hu39 := Tryd.underlying39
 have HR1 := Aside0.mk hr1
 have HC1 := Aside0.mk hc1
 clear hr1 hc1
 have HB := Aside0.mk (Below.refl w.heap.size w)
 have H : (if a0_9 = 1 then ((task_in.f a0_5 1 a0_3).bind fun t107 => (if t107 = true then (some (a0_4 == 0)) else (some false))) else ((task_in.f a0_9 2 3).bind fun t108 => (if t108 = true then ((task_in.f a0_4 1 a0_2).bind fun t109 => (if t109 = true then (some (a0_5 == 0)) else (some false))) else (some false)))) = some r := h
 clear h
 by_cases c3 : a0_9 = 1
 ·rw [if_pos c3] at H
  have c3b0 : (a0_9 == 1) = true := beq_iff_eq.mpr c3
  have c3b1 : (a0_9 != 1) = false := bne_eq_false_iff_eq.mpr c3
  clear c3
  replace H := Option.bind_eq_some_iff.mp H
  obtain ⟨t107, A40, H⟩ := H
  replace H : (if t107 = true then (some (a0_4 == 0)) else (some false)) = some r := H
  have A4 := Aside0.mk A40
  clear A40
  by_cases c5 : t107 = true
  ·subst c5
   have H1 : (some (a0_4 == 0)) = some r := by rw [if_pos rfl] at H; exact H
   clear H
   have H := H1
   clear H1
   obtain rfl := Option.some.inj H
   go_enter Tryd.func46, Tryd.ntmps46
   go_wp2_with (first | ((with_reducible refine gate_dst (N := 2) rfl ?_); refine box_event ?hg (N := 2) ?hd (cs := #[.string a0_0, .int .i64 a0_1, .int .i64 a0_2, .int .i64 a0_3, .int .i64 a0_4, .int .i64 a0_5, .int .i64 a0_6, .int .i64 a0_7, .int .i64 a0_8, .int .i64 a0_9, .int .i64 a0_10]) (t := 39) ?hr ?_; (case hd => rfl); (case hg => rfl); (case hr => first | (go_simp; done) | (go_simp; rfl)); intro gb106 hg w6 hbox hb; have n0_ := Aside0.mk (below_step (by repeat (first | (with_reducible first | exact HB.out | apply below_alloc | apply pw_below_drewN | apply below_drew1) | exact HB.out)) hb); have n1_ := Aside0.mk (hbox); have n2_ := Aside0.mk ((by rw [hg]; exact (below_size (by repeat (first | (with_reducible first | exact HB.out | apply below_alloc | apply pw_below_drewN | apply below_drew1) | exact HB.out))) : w.heap.size ≤ gb106)); have n3_ := Aside0.mk ((by rw [hg]; exact (below_size (by repeat (first | (with_reducible first | exact HB.out | apply below_alloc | apply pw_below_drewN | apply below_drew1) | exact HB.out))) : w.heap.size ≤ gb106)); clear HB; have HB := n0_; have BK106 := n1_; have GW106 := n2_; have GE106 := n3_; clear n0_ n1_ n2_ n3_; clear hb hbox hg; have hcz7_0 : w6.cell? ⟨gb106, 0, none⟩ = some (.string a0_0) := (blk_cell BK106.out 0).trans rfl; have hcz7_1 : w6.cell? ⟨gb106, 1, none⟩ = some (.int .i64 a0_1) := (blk_cell BK106.out 1).trans rfl; have hcz7_2 : w6.cell? ⟨gb106, 2, none⟩ = some (.int .i64 a0_2) := (blk_cell BK106.out 2).trans rfl; have hcz7_3 : w6.cell? ⟨gb106, 3, none⟩ = some (.int .i64 a0_3) := (blk_cell BK106.out 3).trans rfl; have hcz7_4 : w6.cell? ⟨gb106, 4, none⟩ = some (.int .i64 a0_4) := (blk_cell BK106.out 4).trans rfl; have hcz7_5 : w6.cell? ⟨gb106, 5, none⟩ = some (.int .i64 a0_5) := (blk_cell BK106.out 5).trans rfl; have hcz7_6 : w6.cell? ⟨gb106, 6, none⟩ = some (.int .i64 a0_6) := (blk_cell BK106.out 6).trans rfl; have hcz7_7 : w6.cell? ⟨gb106, 7, none⟩ = some (.int .i64 a0_7) := (blk_cell BK106.out 7).trans rfl; have hcz7_8 : w6.cell? ⟨gb106, 8, none⟩ = some (.int .i64 a0_8) := (blk_cell BK106.out 8).trans rfl; have hcz7_9 : w6.cell? ⟨gb106, 9, none⟩ = some (.int .i64 a0_9) := (blk_cell BK106.out 9).trans rfl; have hcz7_10 : w6.cell? ⟨gb106, 10, none⟩ = some (.int .i64 a0_10) := (blk_cell BK106.out 10).trans rfl; have hfz7_0 := blk_frozen BK106.out 0; have hfz7_1 := blk_frozen BK106.out 1; have hfz7_2 := blk_frozen BK106.out 2; have hfz7_3 := blk_frozen BK106.out 3; have hfz7_4 := blk_frozen BK106.out 4; have hfz7_5 := blk_frozen BK106.out 5; have hfz7_6 := blk_frozen BK106.out 6; have hfz7_7 := blk_frozen BK106.out 7; have hfz7_8 := blk_frozen BK106.out 8; have hfz7_9 := blk_frozen BK106.out 9; have hfz7_10 := blk_frozen BK106.out 10) | ((with_reducible refine gate_callee (f := 32) rfl ?_); refine goesL_ (some 12) rfl rfl Tryd.func32 (by kernel_rfl) rfl #[.int .i64 a0_5, .int .i64 1, .int .i64 a0_3] rfl (by (try simp only [List.map_toArray, List.map_cons, List.map_nil]); first | done | rfl | (simp only [List.length_drop, List.length_take]; rfl)) ?_; (with_reducible refine (task_in.calls a0_5 1 a0_3 true _ A4.out).mono ?_); rintro e w' ⟨rfl, ⟨nd, rfl⟩⟩; refine ⟨_, rfl, ?_⟩))
   go_ret
   exact ⟨by first | rfl | (simp [errW_none, errW_some] <;> rfl) | (simp [*, errW_none, errW_some] <;> rfl), by repeat (first | (with_reducible first | exact HB.out | apply below_alloc | apply pw_below_drewN | apply below_drew1 | refine below_set ?_ GE106.out) | exact HB.out)⟩
  ·replace c5 := Bool.eq_false_iff.mpr c5
   subst c5
   have H1 : (some false) = some r := by rw [if_neg (show ¬ (false = true) by decide)] at H; exact H
   clear H
   have H := H1
   clear H1
   obtain rfl := Option.some.inj H
   go_enter Tryd.func46, Tryd.ntmps46
   go_wp2_with (first | ((with_reducible refine gate_dst (N := 2) rfl ?_); refine box_event ?hg (N := 2) ?hd (cs := #[.string a0_0, .int .i64 a0_1, .int .i64 a0_2, .int .i64 a0_3, .int .i64 a0_4, .int .i64 a0_5, .int .i64 a0_6, .int .i64 a0_7, .int .i64 a0_8, .int .i64 a0_9, .int .i64 a0_10]) (t := 39) ?hr ?_; (case hd => rfl); (case hg => rfl); (case hr => first | (go_simp; done) | (go_simp; rfl)); intro gb106 hg w8 hbox hb; have n0_ := Aside0.mk (below_step (by repeat (first | (with_reducible first | exact HB.out | apply below_alloc | apply pw_below_drewN | apply below_drew1) | exact HB.out)) hb); have n1_ := Aside0.mk (hbox); have n2_ := Aside0.mk ((by rw [hg]; exact (below_size (by repeat (first | (with_reducible first | exact HB.out | apply below_alloc | apply pw_below_drewN | apply below_drew1) | exact HB.out))) : w.heap.size ≤ gb106)); have n3_ := Aside0.mk ((by rw [hg]; exact (below_size (by repeat (first | (with_reducible first | exact HB.out | apply below_alloc | apply pw_below_drewN | apply below_drew1) | exact HB.out))) : w.heap.size ≤ gb106)); clear HB; have HB := n0_; have BK106 := n1_; have GW106 := n2_; have GE106 := n3_; clear n0_ n1_ n2_ n3_; clear hb hbox hg; have hcz9_0 : w8.cell? ⟨gb106, 0, none⟩ = some (.string a0_0) := (blk_cell BK106.out 0).trans rfl; have hcz9_1 : w8.cell? ⟨gb106, 1, none⟩ = some (.int .i64 a0_1) := (blk_cell BK106.out 1).trans rfl; have hcz9_2 : w8.cell? ⟨gb106, 2, none⟩ = some (.int .i64 a0_2) := (blk_cell BK106.out 2).trans rfl; have hcz9_3 : w8.cell? ⟨gb106, 3, none⟩ = some (.int .i64 a0_3) := (blk_cell BK106.out 3).trans rfl; have hcz9_4 : w8.cell? ⟨gb106, 4, none⟩ = some (.int .i64 a0_4) := (blk_cell BK106.out 4).trans rfl; have hcz9_5 : w8.cell? ⟨gb106, 5, none⟩ = some (.int .i64 a0_5) := (blk_cell BK106.out 5).trans rfl; have hcz9_6 : w8.cell? ⟨gb106, 6, none⟩ = some (.int .i64 a0_6) := (blk_cell BK106.out 6).trans rfl; have hcz9_7 : w8.cell? ⟨gb106, 7, none⟩ = some (.int .i64 a0_7) := (blk_cell BK106.out 7).trans rfl; have hcz9_8 : w8.cell? ⟨gb106, 8, none⟩ = some (.int .i64 a0_8) := (blk_cell BK106.out 8).trans rfl; have hcz9_9 : w8.cell? ⟨gb106, 9, none⟩ = some (.int .i64 a0_9) := (blk_cell BK106.out 9).trans rfl; have hcz9_10 : w8.cell? ⟨gb106, 10, none⟩ = some (.int .i64 a0_10) := (blk_cell BK106.out 10).trans rfl; have hfz9_0 := blk_frozen BK106.out 0; have hfz9_1 := blk_frozen BK106.out 1; have hfz9_2 := blk_frozen BK106.out 2; have hfz9_3 := blk_frozen BK106.out 3; have hfz9_4 := blk_frozen BK106.out 4; have hfz9_5 := blk_frozen BK106.out 5; have hfz9_6 := blk_frozen BK106.out 6; have hfz9_7 := blk_frozen BK106.out 7; have hfz9_8 := blk_frozen BK106.out 8; have hfz9_9 := blk_frozen BK106.out 9; have hfz9_10 := blk_frozen BK106.out 10) | ((with_reducible refine gate_callee (f := 32) rfl ?_); refine goesL_ (some 12) rfl rfl Tryd.func32 (by kernel_rfl) rfl #[.int .i64 a0_5, .int .i64 1, .int .i64 a0_3] rfl (by (try simp only [List.map_toArray, List.map_cons, List.map_nil]); first | done | rfl | (simp only [List.length_drop, List.length_take]; rfl)) ?_; (with_reducible refine (task_in.calls a0_5 1 a0_3 false _ A4.out).mono ?_); rintro e w' ⟨rfl, ⟨nd, rfl⟩⟩; refine ⟨_, rfl, ?_⟩))
   go_ret
   exact ⟨by first | rfl | (simp [errW_none, errW_some] <;> rfl) | (simp [*, errW_none, errW_some] <;> rfl), by repeat (first | (with_reducible first | exact HB.out | apply below_alloc | apply pw_below_drewN | apply below_drew1 | refine below_set ?_ GE106.out) | exact HB.out)⟩
 ·rw [if_neg c3] at H
  have c3b0 : (a0_9 == 1) = false := beq_eq_false_iff_ne.mpr c3
  have c3b1 : (a0_9 != 1) = true := bne_iff_ne.mpr c3
  replace H := Option.bind_eq_some_iff.mp H
  obtain ⟨t108, A100, H⟩ := H
  replace H : (if t108 = true then ((task_in.f a0_4 1 a0_2).bind fun t109 => (if t109 = true then (some (a0_5 == 0)) else (some false))) else (some false)) = some r := H
  have A10 := Aside0.mk A100
  clear A100
  by_cases c11 : t108 = true
  ·subst c11
   have H1 : ((task_in.f a0_4 1 a0_2).bind fun t109 => (if t109 = true then (some (a0_5 == 0)) else (some false))) = some r := by rw [if_pos rfl] at H; exact H
   clear H
   have H := H1
   clear H1
   replace H := Option.bind_eq_some_iff.mp H
   obtain ⟨t109, A120, H⟩ := H
   replace H : (if t109 = true then (some (a0_5 == 0)) else (some false)) = some r := H
   have A12 := Aside0.mk A120
   clear A120
   by_cases c13 : t109 = true
   ·subst c13
    have H1 : (some (a0_5 == 0)) = some r := by rw [if_pos rfl] at H; exact H
    clear H
    have H := H1
    clear H1
    obtain rfl := Option.some.inj H
    go_enter Tryd.func46, Tryd.ntmps46
    go_wp2_with (first | ((with_reducible refine gate_dst (N := 2) rfl ?_); refine box_event ?hg (N := 2) ?hd (cs := #[.string a0_0, .int .i64 a0_1, .int .i64 a0_2, .int .i64 a0_3, .int .i64 a0_4, .int .i64 a0_5, .int .i64 a0_6, .int .i64 a0_7, .int .i64 a0_8, .int .i64 a0_9, .int .i64 a0_10]) (t := 39) ?hr ?_; (case hd => rfl); (case hg => rfl); (case hr => first | (go_simp; done) | (go_simp; rfl)); intro gb106 hg w14 hbox hb; have n0_ := Aside0.mk (below_step (by repeat (first | (with_reducible first | exact HB.out | apply below_alloc | apply pw_below_drewN | apply below_drew1) | exact HB.out)) hb); have n1_ := Aside0.mk (hbox); have n2_ := Aside0.mk ((by rw [hg]; exact (below_size (by repeat (first | (with_reducible first | exact HB.out | apply below_alloc | apply pw_below_drewN | apply below_drew1) | exact HB.out))) : w.heap.size ≤ gb106)); have n3_ := Aside0.mk ((by rw [hg]; exact (below_size (by repeat (first | (with_reducible first | exact HB.out | apply below_alloc | apply pw_below_drewN | apply below_drew1) | exact HB.out))) : w.heap.size ≤ gb106)); clear HB; have HB := n0_; have BK106 := n1_; have GW106 := n2_; have GE106 := n3_; clear n0_ n1_ n2_ n3_; clear hb hbox hg; have hcz15_0 : w14.cell? ⟨gb106, 0, none⟩ = some (.string a0_0) := (blk_cell BK106.out 0).trans rfl; have hcz15_1 : w14.cell? ⟨gb106, 1, none⟩ = some (.int .i64 a0_1) := (blk_cell BK106.out 1).trans rfl; have hcz15_2 : w14.cell? ⟨gb106, 2, none⟩ = some (.int .i64 a0_2) := (blk_cell BK106.out 2).trans rfl; have hcz15_3 : w14.cell? ⟨gb106, 3, none⟩ = some (.int .i64 a0_3) := (blk_cell BK106.out 3).trans rfl; have hcz15_4 : w14.cell? ⟨gb106, 4, none⟩ = some (.int .i64 a0_4) := (blk_cell BK106.out 4).trans rfl; have hcz15_5 : w14.cell? ⟨gb106, 5, none⟩ = some (.int .i64 a0_5) := (blk_cell BK106.out 5).trans rfl; have hcz15_6 : w14.cell? ⟨gb106, 6, none⟩ = some (.int .i64 a0_6) := (blk_cell BK106.out 6).trans rfl; have hcz15_7 : w14.cell? ⟨gb106, 7, none⟩ = some (.int .i64 a0_7) := (blk_cell BK106.out 7).trans rfl; have hcz15_8 : w14.cell? ⟨gb106, 8, none⟩ = some (.int .i64 a0_8) := (blk_cell BK106.out 8).trans rfl; have hcz15_9 : w14.cell? ⟨gb106, 9, none⟩ = some (.int .i64 a0_9) := (blk_cell BK106.out 9).trans rfl; have hcz15_10 : w14.cell? ⟨gb106, 10, none⟩ = some (.int .i64 a0_10) := (blk_cell BK106.out 10).trans rfl; have hfz15_0 := blk_frozen BK106.out 0; have hfz15_1 := blk_frozen BK106.out 1; have hfz15_2 := blk_frozen BK106.out 2; have hfz15_3 := blk_frozen BK106.out 3; have hfz15_4 := blk_frozen BK106.out 4; have hfz15_5 := blk_frozen BK106.out 5; have hfz15_6 := blk_frozen BK106.out 6; have hfz15_7 := blk_frozen BK106.out 7; have hfz15_8 := blk_frozen BK106.out 8; have hfz15_9 := blk_frozen BK106.out 9; have hfz15_10 := blk_frozen BK106.out 10) | ((with_reducible refine gate_callee (f := 32) rfl ?_); refine goesL_ (some 20) rfl rfl Tryd.func32 (by kernel_rfl) rfl #[.int .i64 a0_9, .int .i64 2, .int .i64 3] rfl (by (try simp only [List.map_toArray, List.map_cons, List.map_nil]); first | done | rfl | (simp only [List.length_drop, List.length_take]; rfl)) ?_; (with_reducible refine (task_in.calls a0_9 2 3 true _ A10.out).mono ?_); rintro e w' ⟨rfl, ⟨nd, rfl⟩⟩; refine ⟨_, rfl, ?_⟩; (try clear A10)) | (go_at_call 32; (with_reducible refine (task_in.calls a0_4 1 a0_2 true _ A12.out).mono ?_); rintro e w' ⟨rfl, ⟨nd, rfl⟩⟩))
    go_ret
    exact ⟨by first | rfl | (simp [errW_none, errW_some] <;> rfl) | (simp [*, errW_none, errW_some] <;> rfl), by repeat (first | (with_reducible first | exact HB.out | apply below_alloc | apply pw_below_drewN | apply below_drew1 | refine below_set ?_ GE106.out) | exact HB.out)⟩
   ·replace c13 := Bool.eq_false_iff.mpr c13
    subst c13
    have H1 : (some false) = some r := by rw [if_neg (show ¬ (false = true) by decide)] at H; exact H
    clear H
    have H := H1
    clear H1
    obtain rfl := Option.some.inj H
    go_enter Tryd.func46, Tryd.ntmps46
    go_wp2_with (first | ((with_reducible refine gate_dst (N := 2) rfl ?_); refine box_event ?hg (N := 2) ?hd (cs := #[.string a0_0, .int .i64 a0_1, .int .i64 a0_2, .int .i64 a0_3, .int .i64 a0_4, .int .i64 a0_5, .int .i64 a0_6, .int .i64 a0_7, .int .i64 a0_8, .int .i64 a0_9, .int .i64 a0_10]) (t := 39) ?hr ?_; (case hd => rfl); (case hg => rfl); (case hr => first | (go_simp; done) | (go_simp; rfl)); intro gb106 hg w16 hbox hb; have n0_ := Aside0.mk (below_step (by repeat (first | (with_reducible first | exact HB.out | apply below_alloc | apply pw_below_drewN | apply below_drew1) | exact HB.out)) hb); have n1_ := Aside0.mk (hbox); have n2_ := Aside0.mk ((by rw [hg]; exact (below_size (by repeat (first | (with_reducible first | exact HB.out | apply below_alloc | apply pw_below_drewN | apply below_drew1) | exact HB.out))) : w.heap.size ≤ gb106)); have n3_ := Aside0.mk ((by rw [hg]; exact (below_size (by repeat (first | (with_reducible first | exact HB.out | apply below_alloc | apply pw_below_drewN | apply below_drew1) | exact HB.out))) : w.heap.size ≤ gb106)); clear HB; have HB := n0_; have BK106 := n1_; have GW106 := n2_; have GE106 := n3_; clear n0_ n1_ n2_ n3_; clear hb hbox hg; have hcz17_0 : w16.cell? ⟨gb106, 0, none⟩ = some (.string a0_0) := (blk_cell BK106.out 0).trans rfl; have hcz17_1 : w16.cell? ⟨gb106, 1, none⟩ = some (.int .i64 a0_1) := (blk_cell BK106.out 1).trans rfl; have hcz17_2 : w16.cell? ⟨gb106, 2, none⟩ = some (.int .i64 a0_2) := (blk_cell BK106.out 2).trans rfl; have hcz17_3 : w16.cell? ⟨gb106, 3, none⟩ = some (.int .i64 a0_3) := (blk_cell BK106.out 3).trans rfl; have hcz17_4 : w16.cell? ⟨gb106, 4, none⟩ = some (.int .i64 a0_4) := (blk_cell BK106.out 4).trans rfl; have hcz17_5 : w16.cell? ⟨gb106, 5, none⟩ = some (.int .i64 a0_5) := (blk_cell BK106.out 5).trans rfl; have hcz17_6 : w16.cell? ⟨gb106, 6, none⟩ = some (.int .i64 a0_6) := (blk_cell BK106.out 6).trans rfl; have hcz17_7 : w16.cell? ⟨gb106, 7, none⟩ = some (.int .i64 a0_7) := (blk_cell BK106.out 7).trans rfl; have hcz17_8 : w16.cell? ⟨gb106, 8, none⟩ = some (.int .i64 a0_8) := (blk_cell BK106.out 8).trans rfl; have hcz17_9 : w16.cell? ⟨gb106, 9, none⟩ = some (.int .i64 a0_9) := (blk_cell BK106.out 9).trans rfl; have hcz17_10 : w16.cell? ⟨gb106, 10, none⟩ = some (.int .i64 a0_10) := (blk_cell BK106.out 10).trans rfl; have hfz17_0 := blk_frozen BK106.out 0; have hfz17_1 := blk_frozen BK106.out 1; have hfz17_2 := blk_frozen BK106.out 2; have hfz17_3 := blk_frozen BK106.out 3; have hfz17_4 := blk_frozen BK106.out 4; have hfz17_5 := blk_frozen BK106.out 5; have hfz17_6 := blk_frozen BK106.out 6; have hfz17_7 := blk_frozen BK106.out 7; have hfz17_8 := blk_frozen BK106.out 8; have hfz17_9 := blk_frozen BK106.out 9; have hfz17_10 := blk_frozen BK106.out 10) | ((with_reducible refine gate_callee (f := 32) rfl ?_); refine goesL_ (some 20) rfl rfl Tryd.func32 (by kernel_rfl) rfl #[.int .i64 a0_9, .int .i64 2, .int .i64 3] rfl (by (try simp only [List.map_toArray, List.map_cons, List.map_nil]); first | done | rfl | (simp only [List.length_drop, List.length_take]; rfl)) ?_; (with_reducible refine (task_in.calls a0_9 2 3 true _ A10.out).mono ?_); rintro e w' ⟨rfl, ⟨nd, rfl⟩⟩; refine ⟨_, rfl, ?_⟩; (try clear A10)) | (go_at_call 32; (with_reducible refine (task_in.calls a0_4 1 a0_2 false _ A12.out).mono ?_); rintro e w' ⟨rfl, ⟨nd, rfl⟩⟩))
    go_ret
    exact ⟨by first | rfl | (simp [errW_none, errW_some] <;> rfl) | (simp [*, errW_none, errW_some] <;> rfl), by repeat (first | (with_reducible first | exact HB.out | apply below_alloc | apply pw_below_drewN | apply below_drew1 | refine below_set ?_ GE106.out) | exact HB.out)⟩
  ·replace c11 := Bool.eq_false_iff.mpr c11
   subst c11
   have H1 : (some false) = some r := by rw [if_neg (show ¬ (false = true) by decide)] at H; exact H
   clear H
   have H := H1
   clear H1
   obtain rfl := Option.some.inj H
   go_enter Tryd.func46, Tryd.ntmps46
   go_wp2_with (first | ((with_reducible refine gate_dst (N := 2) rfl ?_); refine box_event ?hg (N := 2) ?hd (cs := #[.string a0_0, .int .i64 a0_1, .int .i64 a0_2, .int .i64 a0_3, .int .i64 a0_4, .int .i64 a0_5, .int .i64 a0_6, .int .i64 a0_7, .int .i64 a0_8, .int .i64 a0_9, .int .i64 a0_10]) (t := 39) ?hr ?_; (case hd => rfl); (case hg => rfl); (case hr => first | (go_simp; done) | (go_simp; rfl)); intro gb106 hg w18 hbox hb; have n0_ := Aside0.mk (below_step (by repeat (first | (with_reducible first | exact HB.out | apply below_alloc | apply pw_below_drewN | apply below_drew1) | exact HB.out)) hb); have n1_ := Aside0.mk (hbox); have n2_ := Aside0.mk ((by rw [hg]; exact (below_size (by repeat (first | (with_reducible first | exact HB.out | apply below_alloc | apply pw_below_drewN | apply below_drew1) | exact HB.out))) : w.heap.size ≤ gb106)); have n3_ := Aside0.mk ((by rw [hg]; exact (below_size (by repeat (first | (with_reducible first | exact HB.out | apply below_alloc | apply pw_below_drewN | apply below_drew1) | exact HB.out))) : w.heap.size ≤ gb106)); clear HB; have HB := n0_; have BK106 := n1_; have GW106 := n2_; have GE106 := n3_; clear n0_ n1_ n2_ n3_; clear hb hbox hg; have hcz19_0 : w18.cell? ⟨gb106, 0, none⟩ = some (.string a0_0) := (blk_cell BK106.out 0).trans rfl; have hcz19_1 : w18.cell? ⟨gb106, 1, none⟩ = some (.int .i64 a0_1) := (blk_cell BK106.out 1).trans rfl; have hcz19_2 : w18.cell? ⟨gb106, 2, none⟩ = some (.int .i64 a0_2) := (blk_cell BK106.out 2).trans rfl; have hcz19_3 : w18.cell? ⟨gb106, 3, none⟩ = some (.int .i64 a0_3) := (blk_cell BK106.out 3).trans rfl; have hcz19_4 : w18.cell? ⟨gb106, 4, none⟩ = some (.int .i64 a0_4) := (blk_cell BK106.out 4).trans rfl; have hcz19_5 : w18.cell? ⟨gb106, 5, none⟩ = some (.int .i64 a0_5) := (blk_cell BK106.out 5).trans rfl; have hcz19_6 : w18.cell? ⟨gb106, 6, none⟩ = some (.int .i64 a0_6) := (blk_cell BK106.out 6).trans rfl; have hcz19_7 : w18.cell? ⟨gb106, 7, none⟩ = some (.int .i64 a0_7) := (blk_cell BK106.out 7).trans rfl; have hcz19_8 : w18.cell? ⟨gb106, 8, none⟩ = some (.int .i64 a0_8) := (blk_cell BK106.out 8).trans rfl; have hcz19_9 : w18.cell? ⟨gb106, 9, none⟩ = some (.int .i64 a0_9) := (blk_cell BK106.out 9).trans rfl; have hcz19_10 : w18.cell? ⟨gb106, 10, none⟩ = some (.int .i64 a0_10) := (blk_cell BK106.out 10).trans rfl; have hfz19_0 := blk_frozen BK106.out 0; have hfz19_1 := blk_frozen BK106.out 1; have hfz19_2 := blk_frozen BK106.out 2; have hfz19_3 := blk_frozen BK106.out 3; have hfz19_4 := blk_frozen BK106.out 4; have hfz19_5 := blk_frozen BK106.out 5; have hfz19_6 := blk_frozen BK106.out 6; have hfz19_7 := blk_frozen BK106.out 7; have hfz19_8 := blk_frozen BK106.out 8; have hfz19_9 := blk_frozen BK106.out 9; have hfz19_10 := blk_frozen BK106.out 10) | ((with_reducible refine gate_callee (f := 32) rfl ?_); refine goesL_ (some 20) rfl rfl Tryd.func32 (by kernel_rfl) rfl #[.int .i64 a0_9, .int .i64 2, .int .i64 3] rfl (by (try simp only [List.map_toArray, List.map_cons, List.map_nil]); first | done | rfl | (simp only [List.length_drop, List.length_take]; rfl)) ?_; (with_reducible refine (task_in.calls a0_9 2 3 false _ A10.out).mono ?_); rintro e w' ⟨rfl, ⟨nd, rfl⟩⟩; refine ⟨_, rfl, ?_⟩))
   go_ret
   exact ⟨by first | rfl | (simp [errW_none, errW_some] <;> rfl) | (simp [*, errW_none, errW_some] <;> rfl), by repeat (first | (with_reducible first | exact HB.out | apply below_alloc | apply pw_below_drewN | apply below_drew1 | refine below_set ?_ GE106.out) | exact HB.out)⟩

/-! ### task_firm: function 47 -/
def task_firm.f (a0_0 : ByteArray) (a0_1 : Int) (a0_2 : Int) (a0_3 : Int) (a0_4 : Int) (a0_5 : Int) (a0_6 : Int) (a0_7 : Int) (a0_8 : Int) (a0_9 : Int) (a0_10 : Int) (l1 : List (S39)) : Option (Bool) := (task_in.f a0_8 1 64).bind fun t111 => (if t111 = true then ((task_in.f a0_7 1 a0_8).bind fun t112 => (some t112)) else (some false))
set_option maxHeartbeats 8000000 in
set_option maxRecDepth 100000 in
theorem task_firm.calls (a0_0 : ByteArray) (a0_1 : Int) (a0_2 : Int) (a0_3 : Int) (a0_4 : Int) (a0_5 : Int) (a0_6 : Int) (a0_7 : Int) (a0_8 : Int) (a0_9 : Int) (a0_10 : Int) (A1 : Option Addr) (c1 : Nat) (l1 : List (S39)) (r : Bool) (w : World) (hr1 : Kd.C k39 w A1 l1.length l1) (hc1 : l1.length ≤ c1) (h : task_firm.f a0_0 a0_1 a0_2 a0_3 a0_4 a0_5 a0_6 a0_7 a0_8 a0_9 a0_10 l1 = some r) :
  Calls Tryd.prog 47 #[.agg #[.string a0_0, .int .i64 a0_1, .int .i64 a0_2, .int .i64 a0_3, .int .i64 a0_4, .int .i64 a0_5, .int .i64 a0_6, .int .i64 a0_7, .int .i64 a0_8, .int .i64 a0_9, .int .i64 a0_10], .slice A1 l1.length c1] w fun e w' => e = .returned (.bool r) ∧ Below w.heap.size w w' := by
 have hu39 := Tryd.underlying39
 have HR1 := Aside0.mk hr1
 have HC1 := Aside0.mk hc1
 clear hr1 hc1
 have HB := Aside0.mk (Below.refl w.heap.size w)
 have H : ((task_in.f a0_8 1 64).bind fun t111 => (if t111 = true then ((task_in.f a0_7 1 a0_8).bind fun t112 => (some t112)) else (some false))) = some r := h
 clear h
 replace H := Option.bind_eq_some_iff.mp H
 obtain ⟨t111, A30, H⟩ := H
 replace H : (if t111 = true then ((task_in.f a0_7 1 a0_8).bind fun t112 => (some t112)) else (some false)) = some r := H
 have A3 := Aside0.mk A30
 clear A30
 by_cases c4 : t111 = true
 ·subst c4
  have H1 : ((task_in.f a0_7 1 a0_8).bind fun t112 => (some t112)) = some r := by rw [if_pos rfl] at H; exact H
  clear H
  have H := H1
  clear H1
  replace H := Option.bind_eq_some_iff.mp H
  obtain ⟨t112, A50, H⟩ := H
  replace H : (some t112) = some r := H
  have A5 := Aside0.mk A50
  clear A50
  obtain rfl := Option.some.inj H
  go_enter Tryd.func47, Tryd.ntmps47
  go_wp2_with (first | ((with_reducible refine gate_dst (N := 2) rfl ?_); refine box_event ?hg (N := 2) ?hd (cs := #[.string a0_0, .int .i64 a0_1, .int .i64 a0_2, .int .i64 a0_3, .int .i64 a0_4, .int .i64 a0_5, .int .i64 a0_6, .int .i64 a0_7, .int .i64 a0_8, .int .i64 a0_9, .int .i64 a0_10]) (t := 39) ?hr ?_; (case hd => rfl); (case hg => rfl); (case hr => first | (go_simp; done) | (go_simp; rfl)); intro gb110 hg w6 hbox hb; have n0_ := Aside0.mk (below_step (by repeat (first | (with_reducible first | exact HB.out | apply below_alloc | apply pw_below_drewN | apply below_drew1) | exact HB.out)) hb); have n1_ := Aside0.mk (hbox); have n2_ := Aside0.mk ((by rw [hg]; exact (below_size (by repeat (first | (with_reducible first | exact HB.out | apply below_alloc | apply pw_below_drewN | apply below_drew1) | exact HB.out))) : w.heap.size ≤ gb110)); have n3_ := Aside0.mk ((by rw [hg]; exact (below_size (by repeat (first | (with_reducible first | exact HB.out | apply below_alloc | apply pw_below_drewN | apply below_drew1) | exact HB.out))) : w.heap.size ≤ gb110)); clear HB; have HB := n0_; have BK110 := n1_; have GW110 := n2_; have GE110 := n3_; clear n0_ n1_ n2_ n3_; clear hb hbox hg; have hcz7_0 : w6.cell? ⟨gb110, 0, none⟩ = some (.string a0_0) := (blk_cell BK110.out 0).trans rfl; have hcz7_1 : w6.cell? ⟨gb110, 1, none⟩ = some (.int .i64 a0_1) := (blk_cell BK110.out 1).trans rfl; have hcz7_2 : w6.cell? ⟨gb110, 2, none⟩ = some (.int .i64 a0_2) := (blk_cell BK110.out 2).trans rfl; have hcz7_3 : w6.cell? ⟨gb110, 3, none⟩ = some (.int .i64 a0_3) := (blk_cell BK110.out 3).trans rfl; have hcz7_4 : w6.cell? ⟨gb110, 4, none⟩ = some (.int .i64 a0_4) := (blk_cell BK110.out 4).trans rfl; have hcz7_5 : w6.cell? ⟨gb110, 5, none⟩ = some (.int .i64 a0_5) := (blk_cell BK110.out 5).trans rfl; have hcz7_6 : w6.cell? ⟨gb110, 6, none⟩ = some (.int .i64 a0_6) := (blk_cell BK110.out 6).trans rfl; have hcz7_7 : w6.cell? ⟨gb110, 7, none⟩ = some (.int .i64 a0_7) := (blk_cell BK110.out 7).trans rfl; have hcz7_8 : w6.cell? ⟨gb110, 8, none⟩ = some (.int .i64 a0_8) := (blk_cell BK110.out 8).trans rfl; have hcz7_9 : w6.cell? ⟨gb110, 9, none⟩ = some (.int .i64 a0_9) := (blk_cell BK110.out 9).trans rfl; have hcz7_10 : w6.cell? ⟨gb110, 10, none⟩ = some (.int .i64 a0_10) := (blk_cell BK110.out 10).trans rfl; have hfz7_0 := blk_frozen BK110.out 0; have hfz7_1 := blk_frozen BK110.out 1; have hfz7_2 := blk_frozen BK110.out 2; have hfz7_3 := blk_frozen BK110.out 3; have hfz7_4 := blk_frozen BK110.out 4; have hfz7_5 := blk_frozen BK110.out 5; have hfz7_6 := blk_frozen BK110.out 6; have hfz7_7 := blk_frozen BK110.out 7; have hfz7_8 := blk_frozen BK110.out 8; have hfz7_9 := blk_frozen BK110.out 9; have hfz7_10 := blk_frozen BK110.out 10) | ((with_reducible refine gate_callee (f := 32) rfl ?_); refine goesL_ (some 7) rfl rfl Tryd.func32 (by kernel_rfl) rfl #[.int .i64 a0_8, .int .i64 1, .int .i64 64] rfl (by (try simp only [List.map_toArray, List.map_cons, List.map_nil]); first | done | rfl | (simp only [List.length_drop, List.length_take]; rfl)) ?_; (with_reducible refine (task_in.calls a0_8 1 64 true _ A3.out).mono ?_); rintro e w' ⟨rfl, ⟨nd, rfl⟩⟩; refine ⟨_, rfl, ?_⟩; (try clear A3)) | (go_at_call 32; (with_reducible refine (task_in.calls a0_7 1 a0_8 t112 _ A5.out).mono ?_); rintro e w' ⟨rfl, ⟨nd, rfl⟩⟩))
  go_ret
  exact ⟨by first | rfl | (simp [errW_none, errW_some] <;> rfl) | (simp [*, errW_none, errW_some] <;> rfl), by repeat (first | (with_reducible first | exact HB.out | apply below_alloc | apply pw_below_drewN | apply below_drew1 | refine below_set ?_ GE110.out) | exact HB.out)⟩
 ·replace c4 := Bool.eq_false_iff.mpr c4
  subst c4
  have H1 : (some false) = some r := by rw [if_neg (show ¬ (false = true) by decide)] at H; exact H
  clear H
  have H := H1
  clear H1
  obtain rfl := Option.some.inj H
  go_enter Tryd.func47, Tryd.ntmps47
  go_wp2_with (first | ((with_reducible refine gate_dst (N := 2) rfl ?_); refine box_event ?hg (N := 2) ?hd (cs := #[.string a0_0, .int .i64 a0_1, .int .i64 a0_2, .int .i64 a0_3, .int .i64 a0_4, .int .i64 a0_5, .int .i64 a0_6, .int .i64 a0_7, .int .i64 a0_8, .int .i64 a0_9, .int .i64 a0_10]) (t := 39) ?hr ?_; (case hd => rfl); (case hg => rfl); (case hr => first | (go_simp; done) | (go_simp; rfl)); intro gb110 hg w8 hbox hb; have n0_ := Aside0.mk (below_step (by repeat (first | (with_reducible first | exact HB.out | apply below_alloc | apply pw_below_drewN | apply below_drew1) | exact HB.out)) hb); have n1_ := Aside0.mk (hbox); have n2_ := Aside0.mk ((by rw [hg]; exact (below_size (by repeat (first | (with_reducible first | exact HB.out | apply below_alloc | apply pw_below_drewN | apply below_drew1) | exact HB.out))) : w.heap.size ≤ gb110)); have n3_ := Aside0.mk ((by rw [hg]; exact (below_size (by repeat (first | (with_reducible first | exact HB.out | apply below_alloc | apply pw_below_drewN | apply below_drew1) | exact HB.out))) : w.heap.size ≤ gb110)); clear HB; have HB := n0_; have BK110 := n1_; have GW110 := n2_; have GE110 := n3_; clear n0_ n1_ n2_ n3_; clear hb hbox hg; have hcz9_0 : w8.cell? ⟨gb110, 0, none⟩ = some (.string a0_0) := (blk_cell BK110.out 0).trans rfl; have hcz9_1 : w8.cell? ⟨gb110, 1, none⟩ = some (.int .i64 a0_1) := (blk_cell BK110.out 1).trans rfl; have hcz9_2 : w8.cell? ⟨gb110, 2, none⟩ = some (.int .i64 a0_2) := (blk_cell BK110.out 2).trans rfl; have hcz9_3 : w8.cell? ⟨gb110, 3, none⟩ = some (.int .i64 a0_3) := (blk_cell BK110.out 3).trans rfl; have hcz9_4 : w8.cell? ⟨gb110, 4, none⟩ = some (.int .i64 a0_4) := (blk_cell BK110.out 4).trans rfl; have hcz9_5 : w8.cell? ⟨gb110, 5, none⟩ = some (.int .i64 a0_5) := (blk_cell BK110.out 5).trans rfl; have hcz9_6 : w8.cell? ⟨gb110, 6, none⟩ = some (.int .i64 a0_6) := (blk_cell BK110.out 6).trans rfl; have hcz9_7 : w8.cell? ⟨gb110, 7, none⟩ = some (.int .i64 a0_7) := (blk_cell BK110.out 7).trans rfl; have hcz9_8 : w8.cell? ⟨gb110, 8, none⟩ = some (.int .i64 a0_8) := (blk_cell BK110.out 8).trans rfl; have hcz9_9 : w8.cell? ⟨gb110, 9, none⟩ = some (.int .i64 a0_9) := (blk_cell BK110.out 9).trans rfl; have hcz9_10 : w8.cell? ⟨gb110, 10, none⟩ = some (.int .i64 a0_10) := (blk_cell BK110.out 10).trans rfl; have hfz9_0 := blk_frozen BK110.out 0; have hfz9_1 := blk_frozen BK110.out 1; have hfz9_2 := blk_frozen BK110.out 2; have hfz9_3 := blk_frozen BK110.out 3; have hfz9_4 := blk_frozen BK110.out 4; have hfz9_5 := blk_frozen BK110.out 5; have hfz9_6 := blk_frozen BK110.out 6; have hfz9_7 := blk_frozen BK110.out 7; have hfz9_8 := blk_frozen BK110.out 8; have hfz9_9 := blk_frozen BK110.out 9; have hfz9_10 := blk_frozen BK110.out 10) | ((with_reducible refine gate_callee (f := 32) rfl ?_); refine goesL_ (some 7) rfl rfl Tryd.func32 (by kernel_rfl) rfl #[.int .i64 a0_8, .int .i64 1, .int .i64 64] rfl (by (try simp only [List.map_toArray, List.map_cons, List.map_nil]); first | done | rfl | (simp only [List.length_drop, List.length_take]; rfl)) ?_; (with_reducible refine (task_in.calls a0_8 1 64 false _ A3.out).mono ?_); rintro e w' ⟨rfl, ⟨nd, rfl⟩⟩; refine ⟨_, rfl, ?_⟩))
  go_ret
  exact ⟨by first | rfl | (simp [errW_none, errW_some] <;> rfl) | (simp [*, errW_none, errW_some] <;> rfl), by repeat (first | (with_reducible first | exact HB.out | apply below_alloc | apply pw_below_drewN | apply below_drew1 | refine below_set ?_ GE110.out) | exact HB.out)⟩

end Go.Proofs.YtefenbhcbpfihaaDoor.Q

-- What is asked of one task: the five questions, as the program answers them.
namespace Go.Proofs.YtefenbhcbpfihaaDoor.Q
open Go.RowKit Go.Proofs.YtefenbhcbpfihaaDoorW.PrintWords Go.Proofs.YtefenbhcbpfihaaDoorW.PrintLast Go.Proofs.YtefenbhcbpfihaaDoorW.PrintMore
attribute [local go_sem] max2_int min2_int max_two min_two max_three min_three max_four min_four   -- for this text's walks alone
set_option linter.unusedVariables false
set_option linter.unusedSimpArgs false

set_option maxHeartbeats 1000000 in
set_option maxRecDepth 100000 in
theorem named_ask (t : TK) (A : Option Addr) (c : Nat) (xs : List TK) (W : World) (hxs : Kd.C k39 W A xs.length xs) (hc : xs.length ≤ c) (hlen : xs.length ≤ 1000000) :
  Calls Tryd.prog 44 #[tkV t, .slice A xs.length c] W fun e w' => e = .returned (.bool (tNamed t xs)) ∧ Below W.heap.size W w' := by
 have hb0 : Below W.heap.size W (W.alloc (.cells (tkC t) 39 (0, 0))) := below_alloc (Below.refl _ _) _
 have HB := Aside0.mk hb0
 have hbk : (W.alloc (.cells (tkC t) 39 (0, 0))).heap[W.heap.size]? = some (.cells (tkC t) 39 (0, 0)) := blk_new W _
 have HBK := Aside0.mk hbk
 have HC : ∀ w1, Below W.heap.size W w1 → w1.heap[W.heap.size]? = some (.cells (tkC t) 39 (0, 0)) → Calls Tryd.prog 61 #[.slice A xs.length c, .func (.func 62) #[] #[.pointer (some ⟨W.heap.size, 0, none⟩)]] w1 fun e w' => e = .returned (.bool (xs.any (fun x => x.f0.toList == t.f0.toList))) ∧ Below w1.heap.size w1 w' := fun w1 hb hk =>
  contains_any w1 A c xs _ (fun x => x.f0.toList == t.f0.toList) _ (fun args w => by go_simp; done) (Kd.C_below hxs hb) hc hlen (fun x W' hb' => named_same t x W.heap.size W' (blk_below hk hb'))
 have HCC := Aside0.mk HC
 clear hb0 hbk HC hxs
 obtain ⟨bn, hbn⟩ : ∃ bn, named t.f0 = bn := ⟨_, rfl⟩
 have HBN := Aside0.mk hbn
 clear hbn
 unfold tkV
 unfold tkC at *
 go_enter Tryd.func44, Tryd.ntmps44
 go_wp2_with fail
 refine (index_Named.calls t.f0 bn _ (by unfold index_Named.f; rw [HBN.out])).mono ?_
 rintro e wA ⟨rfl, hb⟩
 have HBA := Aside0.mk (below_step HB.out hb)
 have HKA := Aside0.mk (blk_below HBK.out hb)
 clear hb HB HBK
 cases bn with
 | false =>
  go_wp2_with fail
  go_ret
  exact ⟨by unfold tNamed; rw [HBN.out]; rfl, HBA.out⟩
 | true =>
  go_wp2_with fail
  refine (HCC.out wA HBA.out HKA.out).mono ?_
  rintro e wB ⟨rfl, hb⟩
  have HBB := Aside0.mk (below_step HBA.out hb)
  clear hb HBA HKA
  go_wp2_with fail
  go_ret
  exact ⟨by unfold tNamed; rw [HBN.out]; rfl, HBB.out⟩
set_option maxHeartbeats 1000000 in
set_option maxRecDepth 100000 in
theorem ranked_ask (t : TK) (A : Option Addr) (c : Nat) (xs : List TK) (W : World) (hxs : Kd.C k39 W A xs.length xs) (hc : xs.length ≤ c) (hlen : xs.length ≤ 1000000) :
  Calls Tryd.prog 48 #[tkV t, .slice A xs.length c] W fun e w' => e = .returned (.bool (tRanked t xs)) ∧ Below W.heap.size W w' := by
 have hb0 : Below W.heap.size W (W.alloc (.cells (tkC t) 39 (0, 0))) := below_alloc (Below.refl _ _) _
 have HB := Aside0.mk hb0
 have hbk : (W.alloc (.cells (tkC t) 39 (0, 0))).heap[W.heap.size]? = some (.cells (tkC t) 39 (0, 0)) := blk_new W _
 have HBK := Aside0.mk hbk
 have HC : ∀ w1, Below W.heap.size W w1 → w1.heap[W.heap.size]? = some (.cells (tkC t) 39 (0, 0)) → Calls Tryd.prog 61 #[.slice A xs.length c, .func (.func 63) #[] #[.pointer (some ⟨W.heap.size, 0, none⟩)]] w1 fun e w' => e = .returned (.bool (xs.any (fun x => x.f10 == t.f10))) ∧ Below w1.heap.size w1 w' := fun w1 hb hk =>
  contains_any w1 A c xs _ (fun x => x.f10 == t.f10) _ (fun args w => by go_simp; done) (Kd.C_below hxs hb) hc hlen (fun x W' hb' => ranked_same t x W.heap.size W' (blk_below hk hb'))
 have HCC := Aside0.mk HC
 clear hb0 hbk HC hxs
 obtain ⟨bn, hbn⟩ : ∃ bn, inB t.f10 0 255 = bn := ⟨_, rfl⟩
 have HBN := Aside0.mk hbn
 clear hbn
 unfold tkV
 unfold tkC at *
 go_enter Tryd.func48, Tryd.ntmps48
 go_wp2_with fail
 refine (task_in.calls t.f10 0 255 bn _ (by have := HBN.out; unfold inB at this; unfold task_in.f; by_cases h : t.f10 ≥ 0 <;> simp [h] at this ⊢ <;> exact this)).mono ?_
 rintro e wA ⟨rfl, hd⟩
 have hb := hd.below
 have HBA := Aside0.mk (below_step HB.out hb)
 have HKA := Aside0.mk (blk_below HBK.out hb)
 clear hb hd HB HBK
 cases bn with
 | false =>
  go_wp2_with fail
  go_ret
  exact ⟨by unfold tRanked; rw [HBN.out]; rfl, HBA.out⟩
 | true =>
  go_wp2_with fail
  refine (HCC.out wA HBA.out HKA.out).mono ?_
  rintro e wB ⟨rfl, hb⟩
  have HBB := Aside0.mk (below_step HBA.out hb)
  clear hb HBA HKA
  go_wp2_with fail
  go_ret
  exact ⟨by unfold tRanked; rw [HBN.out]; rfl, HBB.out⟩
theorem in_eq (a b c : Int) : task_in.f a b c = some (inB a b c) := by
 unfold task_in.f inB
 by_cases h : a ≥ b <;> simp [h]
theorem timed_ask (t : TK) (A : Option Addr) (c : Nat) (xs : List TK) (W : World) (hxs : Kd.C k39 W A xs.length xs) (hc : xs.length ≤ c) :
  Calls Tryd.prog 45 #[tkV t, .slice A xs.length c] W fun e w' => e = .returned (.bool (tTimed t)) ∧ Below W.heap.size W w' := by
 refine (task_timed.calls t.f0 t.f1 t.f2 t.f3 t.f4 t.f5 t.f6 t.f7 t.f8 t.f9 t.f10 A c xs (tTimed t) W hxs hc ?_).mono fun e w' ⟨he, hd⟩ => ⟨he, hd⟩
 unfold task_timed.f tTimed
 simp only [in_eq, Option.bind_some]
 cases inB t.f1 1 1048576 <;> cases inB t.f2 1 t.f1 <;> cases inB t.f3 1 t.f2 <;> simp
theorem moded_ask (t : TK) (A : Option Addr) (c : Nat) (xs : List TK) (W : World) (hxs : Kd.C k39 W A xs.length xs) (hc : xs.length ≤ c) :
  Calls Tryd.prog 46 #[tkV t, .slice A xs.length c] W fun e w' => e = .returned (.bool (tModed t)) ∧ Below W.heap.size W w' := by
 refine (task_moded.calls t.f0 t.f1 t.f2 t.f3 t.f4 t.f5 t.f6 t.f7 t.f8 t.f9 t.f10 A c xs (tModed t) W hxs hc ?_).mono fun e w' ⟨he, hd⟩ => ⟨he, hd⟩
 unfold task_moded.f tModed
 simp only [in_eq, Option.bind_some]
 by_cases h : t.f9 = 1
 ·simp only [if_pos h]
  cases inB t.f5 1 t.f3 <;> simp
 ·simp only [if_neg h]
  cases inB t.f9 2 3 <;> cases inB t.f4 1 t.f2 <;> simp
theorem firm_ask (t : TK) (A : Option Addr) (c : Nat) (xs : List TK) (W : World) (hxs : Kd.C k39 W A xs.length xs) (hc : xs.length ≤ c) :
  Calls Tryd.prog 47 #[tkV t, .slice A xs.length c] W fun e w' => e = .returned (.bool (tFirm t)) ∧ Below W.heap.size W w' := by
 refine (task_firm.calls t.f0 t.f1 t.f2 t.f3 t.f4 t.f5 t.f6 t.f7 t.f8 t.f9 t.f10 A c xs (tFirm t) W hxs hc ?_).mono fun e w' ⟨he, hd⟩ => ⟨he, hd⟩
 unfold task_firm.f tFirm
 simp only [in_eq, Option.bind_some]
 cases inB t.f8 1 64 <;> simp
end Go.Proofs.YtefenbhcbpfihaaDoor.Q
