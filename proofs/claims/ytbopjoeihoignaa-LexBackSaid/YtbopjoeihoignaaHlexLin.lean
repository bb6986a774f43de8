-- LexLines, walked by hand.
-- HAND pendulum/pendulumlaw04.LexLines rounds=0 making=1
-- NEEDS pendulum/pendulumlaw04.awake pendulum/lex.Tokens pendulum/pendulumref04.Same
import Derived.Test.YtbopjoeihoignaaQ0
import Derived.Test.YtbopjoeihoignaaQ0
import Derived.Test.YtbopjoeihoignaaQ8
import Derived.Test.YtbopjoeihoignaaHlex
import Derived.Test.YtbopjoeihoignaaHlexA
import Derived.Test.YtbopjoeihoignaaHlexD
import Derived.Test.YtbopjoeihoignaaHlexW
import Derived.Test.YtbopjoeihoignaaLlex
import Derived.Test.YtbopjoeihoignaaLlexJ
import Derived.Test.YtbopjoeihoignaaLlexR
import Derived.OpenShut
import Derived.WalkSpells
import Derived.IntWalk
import Derived.Lib.SlBytesConst
namespace Go.Proofs.Ytbopjoeihoignaa.Q
open Go.RowKit Go.Proofs.YtbopjoeihoignaaW.PrintWords Go.Proofs.YtbopjoeihoignaaW.PrintLast Go.Proofs.YtbopjoeihoignaaW.PrintMore
attribute [local go_sem] max2_int min2_int max_two min_two max_three min_three max_four min_four   -- for this text's walks alone
set_option linter.unusedVariables false
set_option linter.unusedSimpArgs false

def pendulumlaw04_LexLines.f (a0 : List Int) (a1 : ByteArray) : Option Bool := some true
def pendulumlaw04_LexLines.Pure : Prop := True
def LinS (w W : World) (g : Nat) (v : Value) (r1 : List S33) (e1 e2 e3 : Int) : Prop :=
  Below w.heap.size w W ∧ Kd.R k33 33 W w.heap.size (fun _ => True) v r1 ∧ W.heap[g]? = some (.cells #[.int .i64 e1, .int .i64 e2, .int .i64 e3] 27 (0, 0))
theorem LinS.below {w W W' : World} {g : Nat} {v : Value} {r1 : List S33} {e1 e2 e3 : Int} (h : LinS w W g v r1 e1 e2 e3) (hb : Below W.heap.size W W') : LinS w W' g v r1 e1 e2 e3 :=
  ⟨below_step h.1 hb, Kd.R_below h.2.1 hb, blk_below h.2.2 hb⟩
theorem below_of_grown {w W W' : World} {row : Option Nat} (h : W.grownBy W' row) (hr : ∀ k, row = some k → W.heap.size ≤ k) : Below W.heap.size W W' := (Below.refl _ _).grown h (Nat.le_refl _) hr
theorem bytesOf_append (x y : ByteArray) : bytesOf (x ++ y) = bytesOf x ++ bytesOf y := by
  unfold bytesOf
  rw [ByteArray.data_append]
  simp
theorem bytesOf_mem {s : ByteArray} {x : Int} (h : x ∈ bytesOf s) : ∃ j : Nat, j < s.size ∧ bt s j = x := by
  obtain ⟨j, hj', e⟩ := List.getElem_of_mem h
  have hj := hj'
  rw [bytesOf_length] at hj
  refine ⟨j, hj, ?_⟩
  have h1 := bytesOf_get s j
  rw [List.getD_eq_getElem?_getD, List.getElem?_eq_getElem hj', Option.getD_some] at h1
  rw [← e, h1]
  unfold bt
  rw [dif_pos (by simpa using hj)]
  have hj2 : j < s.data.size := hj
  simp [List.getD_eq_getElem?_getD, ByteArray.getElem_eq_getElem_data]
  rw [Array.getElem?_eq_getElem hj2]
  rfl
theorem bytesOf_ok (s : ByteArray) : okBytes (bytesOf s) = true := by
  refine List.all_eq_true.2 fun x hx => ?_
  obtain ⟨j, _, e⟩ := bytesOf_mem hx
  have := bt_range s j
  rw [e] at this
  simp
  omega
theorem ok_append {a b : List Int} (ha : okBytes a = true) (hb : okBytes b = true) : okBytes (a ++ b) = true := by
  unfold okBytes at *
  rw [List.all_append, ha, hb]; rfl
theorem lns_step (l : List S33) (i : Nat) (h : i < l.length) : (lns (l.take (i + 1)) : Int) = lns (l.take i) + if (rd_T33 l i).f0 = 3 then 1 else 0 := by
  have e : l.take (i + 1) = l.take i ++ [rd_T33 l i] := by
    rw [List.take_succ_eq_append_getElem h]
    simp [rd_T33, List.getD_eq_getElem?_getD, List.getElem?_eq_getElem h]
  rw [e]
  unfold lns
  rw [List.countP_append]
  by_cases hh : (rd_T33 l i).f0 = 3
  · rw [if_pos hh]; simp [hh]
  · rw [if_neg hh]; simp [hh]
theorem lns_le (l : List S33) (i : Nat) : lns (l.take i) ≤ i := by
  have h1 : lns (l.take i) ≤ (l.take i).length := List.countP_le_length
  have h2 : (l.take i).length ≤ i := List.length_take_le _ _
  omega
theorem rd_last (ys : List S33) (e : S33) : rd_T33 (ys ++ [e]) (ys.length : Int) = e := by
  simp [rd_T33]
theorem cnt_step (l : List Int) (i : Nat) (h : i < l.length) : (cnt (l.take (i + 1)) : Int) = cnt (l.take i) + if rd l i = 10 then 1 else 0 := by
  have e : l.take (i + 1) = l.take i ++ [rd l i] := by
    rw [List.take_succ_eq_append_getElem h]
    simp [rd, List.getD_eq_getElem?_getD, List.getElem?_eq_getElem h]
  rw [e]
  unfold cnt
  rw [List.countP_append]
  by_cases hh : rd l i = 10
  · rw [if_pos hh]; simp [hh]
  · rw [if_neg hh]; simp [hh]
theorem cnt_le (l : List Int) (i : Nat) : cnt (l.take i) ≤ i := by
  have h1 : cnt (l.take i) ≤ (l.take i).length := List.countP_le_length
  have h2 : (l.take i).length ≤ i := List.length_take_le _ _
  omega
set_option maxHeartbeats 2000000 in
set_option maxRecDepth 100000 in
theorem lexlines_far (A0 : Option Addr) (c0 : Nat) (l0 : List Int) (a1 : ByteArray) (w : World) (h : 3000 < l0.length ∨ 500 < a1.size) :
    Calls Try.prog 7 #[.slice A0 l0.length c0, .string a1] w fun e w' => e = .returned (.bool true) ∧ Below w.heap.size w w' := by
  have HB := Aside0.mk (Below.refl w.heap.size w)
  by_cases h1 : 3000 < l0.length
  · have d1 : decide ((3000 : Int) < (l0.length : Int)) = true := by simp; omega
    clear h h1
    go_enter Try.func7, Try.ntmps7
    go_wp2_with (go_at_call 9; (with_reducible refine (pendulumlaw04_awake.calls true _ rfl).mono ?_); rintro e wA ⟨rfl, hb⟩; have HB1 := Aside0.mk (below_step HB.out hb); clear HB hb; have HB := HB1; clear HB1)
    go_ret
    exact ⟨rfl, HB.out⟩
  · have d1 : decide ((3000 : Int) < (l0.length : Int)) = false := by simp; omega
    have d2 : decide ((500 : Int) < (a1.size : Int)) = true := by simp; omega
    clear h h1
    go_enter Try.func7, Try.ntmps7
    go_wp2_with (go_at_call 9; (with_reducible refine (pendulumlaw04_awake.calls true _ rfl).mono ?_); rintro e wA ⟨rfl, hb⟩; have HB1 := Aside0.mk (below_step HB.out hb); clear HB hb; have HB := HB1; clear HB1)
    go_ret
    exact ⟨rfl, HB.out⟩
set_option maxHeartbeats 2000000 in
set_option maxRecDepth 100000 in
theorem lexlines_near (A0 : Option Addr) (c0 : Nat) (l0 : List Int) (a1 : ByteArray) (w : World) (hr0 : Kd.C (Kd.int .u8) w A0 l0.length l0) (hc0 : l0.length ≤ c0) (hok : okBytes l0 = true) (h1 : l0.length ≤ 3000) (h2 : a1.size ≤ 500) (hw : Way l0 1 1) :
    Calls Try.prog 7 #[.slice A0 l0.length c0, .string a1] w fun e w' => e = .returned (.bool true) ∧ Below w.heap.size w w' := by
  have HB := Aside0.mk (Below.refl w.heap.size w)
  have d1 : decide ((3000 : Int) < (l0.length : Int)) = false := by simp; omega
  have d2 : decide ((500 : Int) < (a1.size : Int)) = false := by simp; omega
  have HR0 := Aside0.mk hr0
  have HC0 := Aside0.mk hc0
  have HW := Aside0.mk hw
  have HOK := Aside0.mk hok
  obtain ⟨r1, e1, e2, e3, hlex⟩ : ∃ r1 e1 e2 e3, lexToks l0 = (r1, e1, e2, e3) := ⟨_, _, _, _, rfl⟩
  have HLX := Aside0.mk hlex
  have HF : Aside0 (lex_Tokens.f l0 = some (r1, e1, e2, e3)) := ⟨by rw [lex_some (by omega) hok, hlex]⟩
  clear hr0 hc0 hlex hw hok
  go_enter Try.func7, Try.ntmps7
  go_wp2_with (first | (go_at_call 9; (with_reducible refine (pendulumlaw04_awake.calls true _ rfl).mono ?_); rintro e wA ⟨rfl, hb⟩; have HB1 := Aside0.mk (below_step HB.out hb); clear HB hb; have HB := HB1; clear HB1) | (go_at_call 10; (with_reducible refine (lex_Tokens.calls A0 c0 l0 r1 e1 e2 e3 _ ?side1 HC0.out HF.out).mono ?_); (case side1 => exact Kd.C_below HR0.out HB.out); rintro e w1 ⟨v0, rfl, ho, hb⟩; have HO := Aside0.mk (Kd.R_lower ho (below_size HB.out)); have HB1 := Aside0.mk (below_step HB.out hb); clear HB hb ho; have HB := HB1; clear HB1))
  obtain ⟨W1, hW1⟩ : ∃ W1, W1 = w1.alloc (.cells #[.int .i64 e1, .int .i64 e2, .int .i64 e3] 27) := ⟨_, rfl⟩
  obtain ⟨g1, hg1⟩ : ∃ g1, g1 = w1.heap.size := ⟨_, rfl⟩
  have HS : Aside0 (LinS w W1 g1 v0 r1 e1 e2 e3) := ⟨by rw [hW1, hg1]; exact ⟨below_alloc HB.out _, Kd.R_alloc HO.out _, blk_new _ _⟩⟩
  have HG : Aside0 (w.heap.size ≤ g1) := ⟨by rw [hg1]; exact below_size HB.out⟩
  rw [← hW1, ← hg1]
  clear hW1 hg1 HB HO
  go_loopg [7, 8] (l0.length) (fun kq v7 v8 wr => ∃ i : Nat, v7 = .int .i64 (cnt (l0.take i)) ∧ v8 = .int .i64 i ∧ i ≤ l0.length ∧ Aside0 (kq + i = l0.length) ∧ Aside0 (LinS w wr g1 v0 r1 e1 e2 e3))
  case atStart => exact ⟨0, by simp [cnt], rfl, by omega, ⟨rfl⟩, HS⟩
  case round =>
    clear HS
    obtain ⟨i, rfl, rfl, il, HK, HS⟩ := hrel
    have hcl := cnt_le l0 i
    by_cases hi : i < l0.length
    · have hd : decide ((i : Int) < (l0.length : Int)) = true := by simp; omega
      obtain ⟨ad, e, hc⟩ := Kd.at_int HR0.out (i : Int) (by omega) (by omega)
      cases e
      replace hc := (HS.out.1.cell (World.block_lt_of_cell? w _ hc)).trans hc
      simp only [Int.toNat_natCast] at hc
      have q0 : (0 : Int) ≤ i := by omega
      have q1 : (i : Int) < (l0.length : Int) := by omega
      have HCS := Aside0.mk (cnt_step l0 i hi)
      by_cases h10 : rd l0 i = 10
      · have hb := beq_iff_eq.mpr h10
        have H10 := Aside0.mk h10
        clear h10
        go_wp2
        go_roundg (l0.length - (i + 1))
        case measure => have := HK.out; omega
        case rel => exact ⟨i + 1, by rw [HCS.out, if_pos H10.out], by go_num, by omega, ⟨by omega⟩, HS⟩
      · have hb := beq_eq_false_iff_ne.mpr h10
        have H10 := Aside0.mk h10
        clear h10
        go_wp2
        go_roundg (l0.length - (i + 1))
        case measure => have := HK.out; omega
        case rel => exact ⟨i + 1, by rw [HCS.out, if_neg H10.out, Int.add_zero], by go_num, by omega, ⟨by omega⟩, HS⟩
    · have hd : decide ((i : Int) < (l0.length : Int)) = false := by simp; omega
      have e : i = l0.length := by omega
      subst e
      rw [List.take_length] at *
      clear hi il HK
      go_wp2
      go_loopg [9] (a1.size) (fun kq v9 wr => ∃ i : Nat, v9 = .int .i64 i ∧ i ≤ a1.size ∧ Aside0 (kq + i = a1.size) ∧ Aside0 (∀ j : Nat, j < i → bt a1 j ≠ 10) ∧ Aside0 (LinS w wr g1 v0 r1 e1 e2 e3))
      case atStart => exact ⟨0, rfl, by omega, ⟨rfl⟩, ⟨fun j hj => absurd hj (by omega)⟩, HS⟩
      case round =>
        clear HS
        obtain ⟨i, rfl, il, HK, HQ, HS⟩ := hrel
        by_cases hi : i < a1.size
        · have hd : decide ((i : Int) < (a1.size : Int)) = true := by simp; omega
          have q0 : (0 : Int) ≤ i := by omega
          have q1 : (i : Int) < (a1.size : Int) := by omega
          have hx := bt_at a1 (i : Int) (by simpa using hi)
          simp only [Int.toNat_natCast] at hx
          by_cases h10 : bt a1 i = 10
          · rw [← hx] at h10
            have hb := beq_iff_eq.mpr h10
            clear h10 hx
            go_wp2
            go_ret
            exact ⟨rfl, HS.out.1⟩
          · have HQ2 := Aside0.mk h10
            rw [← hx] at h10
            have hb := beq_eq_false_iff_ne.mpr h10
            clear h10 hx
            go_wp2
            go_roundg (a1.size - (i + 1))
            case measure => have := HK.out; omega
            case rel =>
              refine ⟨i + 1, by go_num, by omega, ⟨by omega⟩, ⟨fun j hj => ?_⟩, HS⟩
              by_cases e : j = i
              · subst e; exact HQ2.out
              · exact HQ.out j (by omega)
        · have hd : decide ((i : Int) < (a1.size : Int)) = false := by simp; omega
          have e : i = a1.size := by omega
          subst e
          clear hi il HK
          have hcat : (⟨#[35]⟩ : ByteArray).size + a1.size ≤ 1000 := by have : (⟨#[35]⟩ : ByteArray).size = 1 := rfl; omega
          have HA1 : Aside0 (a1.size ≤ 500) := ⟨h2⟩
          have HL1 : Aside0 (l0.length ≤ 3000) := ⟨h1⟩
          have hsc : (⟨#[35]⟩ ++ a1 : ByteArray).size = a1.size + 1 := by rw [ByteArray.size_append]; have : (⟨#[35]⟩ : ByteArray).size = 1 := rfl; omega
          have HSC := Aside0.mk hsc
          clear hsc
          have HBr := Aside0.mk (Below.refl wr.heap.size wr)
          have HCr : Aside0 (∀ W, Below wr.heap.size wr W → Kd.C (Kd.int .u8) W A0 l0.length l0) := ⟨fun W h => Kd.C_below (Kd.C_below HR0.out HS.out.1) h⟩
          go_wp2_with (first
            | ((with_reducible refine gate_dst (N := 56) rfl ?_); refine Kd.R_lit (Kd.int .u8) _ 5 ?hg (N := 56) ?hd (xs := ([] : List Int)) (inner := []) (ok := fun _ => True) (okp := fun _ => True) ?hr ?hp (fun _ hk => hk) trivial (Below.refl _ _) (Nat.le_refl _) (by simp) ?_; (case hd => rfl); (case hg => rfl); (case hr => first | (go_simp; done) | (go_simp; rfl)); (case hp => exact (Reps.none _ _)); intro v2 w2 ho hb _ _; have HB1 := Aside0.mk hb; have HO2 := Aside0.mk ho; clear HBr ho hb; have HBr := HB1; clear HB1)
            | ((with_reducible refine gate_builtin (b := .append) (xs := #[.tmp 56, .tmp 57]) rfl ?_); at_builtin; refine Kd.R_append_rows (Kd.int .u8) (w0 := wr) wr.heap.size rfl (.tmp 56) (.tmp 57) 22 5 (.int .u8 0) 1 rfl Try.underlying22 lex_info5 rfl (by decide) (by omega) v2 [] l0 _ _ _ (fun _ => True) (fun _ => False) rfl rfl HO2.out (HCr.out _ HBr.out) (fun _ _ h => h) (fun _ h => h.elim) (fun _ _ => trivial) HBr.out (below_size HBr.out) (by have := HL1.out; simp; omega) ?_; intro v3 w3 ho hb hg hat; have HB1 := Aside0.mk hb; have HO3 := Aside0.mk ho; clear HBr HO2 ho hb hg hat; have HBr := HB1; clear HB1)
            | ((with_reducible refine gate_ (.convert 9 22 (.tmp 60)) rfl ?_); refine conv_event rfl rfl rfl (by rw [HSC.out]; have := HA1.out; omega) ?_; intro A cc w4 hC hcc hB2; have HC4 := Aside0.mk hC; have HB1 := Aside0.mk (below_step HBr.out hB2); have HO4 := Aside0.mk (Kd.R_below HO3.out hB2); clear HBr HO3 hC hcc hB2; have HBr := HB1; clear HB1)
            | ((with_reducible refine gate_builtin (b := .append) (xs := #[.tmp 58, .tmp 61]) rfl ?_); at_builtin; refine Kd.R_append_rows (Kd.int .u8) (w0 := wr) wr.heap.size rfl (.tmp 58) (.tmp 61) 22 5 (.int .u8 0) 1 rfl Try.underlying22 lex_info5 rfl (by decide) (by omega) v3 ([] ++ l0) (bytesOf ((⟨#[35]⟩ : ByteArray) ++ a1)) _ _ _ (fun _ => True) (fun _ => False) rfl rfl HO4.out HC4.out (fun _ _ h => h) (fun _ h => h.elim) (fun _ _ => trivial) HBr.out (below_size HBr.out) ?aL ?_; (case aL => have := HL1.out; have := HSC.out; have := HA1.out; rw [bytesOf_length]; simp only [List.nil_append]; omega); intro v5 w5 ho hb hg hat; have HB1 := Aside0.mk hb; have HO5 := Aside0.mk ho; clear HBr HO4 HC4 ho hb hg hat; have HBr := HB1; clear HB1; obtain ⟨A5, n5, c5, rfl⟩ : ∃ A1 n1 c1, v5 = Value.slice A1 n1 c1 := (by obtain ⟨A1, c1, h⟩ := Kd.R_slice HO5.out; exact ⟨_, _, _, h⟩)))
          have hL2 : ([] ++ l0 ++ bytesOf ((⟨#[35]⟩ : ByteArray) ++ a1)) = l0 ++ 35 :: bytesOf a1 := by rw [bytesOf_append]; rfl
          have hq : ∀ x ∈ bytesOf a1, x ≠ 10 := fun x hx => by obtain ⟨j, hj, e⟩ := bytesOf_mem hx; rw [← e]; exact HQ.out j hj
          have hok2 : okBytes (l0 ++ 35 :: bytesOf a1) = true := ok_append HOK.out (by have := bytesOf_ok a1; unfold okBytes at *; simpa using this)
          have hln2 : (l0 ++ 35 :: bytesOf a1).length ≤ 1000000 := by have := HL1.out; have := HA1.out; rw [List.length_append, List.length_cons, bytesOf_length]; omega
          have HO6 := HO5.out
          rw [hL2] at HO6
          obtain ⟨A6, c6, e6, hle6, hC6⟩ := Kd.R_reads HO6
          injection e6 with e61 e62 e63
          subst e61 e62 e63
          have HSW := Aside0.mk (HS.out.below HBr.out)
          clear HO5 HO6 hL2
          cases HW.out with
          | err e l c he hl hc g0 g1' g2 =>
            have hx := HLX.out
            unfold lexToks at hx
            rw [g0 _ _ (by omega)] at hx
            simp only [Prod.mk.injEq] at hx
            obtain ⟨rfl, rfl, rfl, rfl⟩ := hx
            have HF2 : Aside0 (lex_Tokens.f (l0 ++ 35 :: bytesOf a1) = some ([], e, l, c)) := ⟨by rw [lex_some hln2 hok2]; unfold lexToks; rw [g2 _ _ _ hq (by omega)]⟩
            have hne : (e != 0) = true := bne_iff_ne.mpr (by omega)
            clear g0 g1' g2 he hl hc hq hok2 hln2
            refine (lex_Tokens.calls A5 c5 _ _ _ _ _ _ hC6 hle6 HF2.out).mono ?_
            rintro ee w6 ⟨v6, rfl, hR6, hB6⟩
            obtain ⟨A7, c7, rfl, _, _⟩ := Kd.R_reads hR6
            have hSp := blk_alloc (blk_below HSW.out.2.2 hB6) (.cells #[.int .i64 e, .int .i64 l, .int .i64 c] 27)
            have s0_ := blk_cell hSp 0
            have s1_ := blk_cell hSp 1
            have s2_ := blk_cell hSp 2
            have HB6 := Aside0.mk (below_alloc (below_step HSW.out.1 hB6) (.cells #[.int .i64 e, .int .i64 l, .int .i64 c] 27))
            clear hC6 hle6 hR6 hB6 hSp
            go_wp2
            go_ret
            exact ⟨by simp, HB6.out⟩
          | ok ys C hn hk hy g0 g1' g2 =>
            have hx := HLX.out
            unfold lexToks at hx
            rw [g0 _ _ (by omega)] at hx
            simp only [Prod.mk.injEq, List.nil_append] at hx
            obtain ⟨rfl, rfl, rfl, rfl⟩ := hx
            have HF2 : Aside0 (lex_Tokens.f (l0 ++ 35 :: bytesOf a1) = some (ys ++ [⟨4, (⟨#[]⟩ : ByteArray), 0, 1 + (cnt l0 : Int), C + ((bytesOf a1).length + 1)⟩], 0, 0, 0)) := ⟨by rw [lex_some hln2 hok2]; unfold lexToks; rw [g2 _ _ _ hq (by omega)]; rfl⟩
            have hyl : ys.length ≤ 3000 := by have := HL1.out; omega
            have HN := Aside0.mk hn
            clear g0 g1' g2 hq hok2 hln2 hn hk hy
            refine (lex_Tokens.calls A5 c5 _ _ _ _ _ _ hC6 hle6 HF2.out).mono ?_
            rintro ee w6 ⟨v6, rfl, hR6, hB6⟩
            obtain ⟨A7, c7, e7, hl7, hC7⟩ := Kd.R_reads hR6
            rw [List.length_append, List.length_singleton] at e7 hl7
            subst e7
            have HS6 := HSW.out.below hB6
            obtain ⟨A8, c8, e8, hl8, hC8⟩ := Kd.R_reads HS6.2.1
            rw [List.length_append, List.length_singleton] at e8 hl8
            subst e8
            have HC7 := Aside0.mk (Kd.C_alloc hC7 (.cells #[.int .i64 0, .int .i64 0, .int .i64 0] 27))
            have HC8 := Aside0.mk (Kd.C_alloc hC8 (.cells #[.int .i64 0, .int .i64 0, .int .i64 0] 27))
            have HL78 := Aside0.mk (And.intro hl7 hl8)
            have HSp := Aside0.mk (blk_alloc HS6.2.2 (.cells #[.int .i64 0, .int .i64 0, .int .i64 0] 27))
            have HSq := Aside0.mk (blk_new w6 (.cells #[.int .i64 0, .int .i64 0, .int .i64 0] 27))
            have HB6 := Aside0.mk (below_alloc HS6.1 (.cells #[.int .i64 0, .int .i64 0, .int .i64 0] 27))
            have s0_ := blk_cell HSp.out 0
            clear hC6 hle6 hR6 hB6 hC7 hC8 HS6 hl7 hl8 HSW
            obtain ⟨W9, hW9⟩ : ∃ W9, W9 = w6.alloc (.cells #[.int .i64 0, .int .i64 0, .int .i64 0] 27) := ⟨_, rfl⟩
            obtain ⟨g2, hg2⟩ : ∃ g2, g2 = w6.heap.size := ⟨_, rfl⟩
            go_wp2_with fail
            rw [← hW9] at HC7 HC8 HSp HSq HB6 ⊢
            rw [← hg2] at HSq ⊢
            clear s0_ hW9 hg2
            go_loopg [12, 13] (ys.length + 1) (fun kq v12 v13 wr => ∃ i : Nat, v12 = .int .i64 (lns ((ys ++ [(⟨4, (⟨#[]⟩ : ByteArray), 0, 1 + (cnt l0 : Int), C⟩ : S33)]).take i)) ∧ v13 = .int .i64 i ∧ i ≤ ys.length + 1 ∧ Aside0 (kq + i = ys.length + 1) ∧ Drawn0 W9 wr)
            case atStart => exact ⟨0, by simp [lns], rfl, by omega, ⟨rfl⟩, Drawn0.refl _⟩
            case round =>
              obtain ⟨i, rfl, rfl, il, HK, ⟨nd, rfl⟩⟩ := hrel
              have hcl := lns_le (ys ++ [(⟨4, (⟨#[]⟩ : ByteArray), 0, 1 + (cnt l0 : Int), C⟩ : S33)]) i
              by_cases hi : i < ys.length + 1
              · have hd : decide ((i : Int) < (ys.length : Int) + 1) = true := by simp; omega
                have hll : (ys ++ [(⟨4, (⟨#[]⟩ : ByteArray), 0, 1 + (cnt l0 : Int), C⟩ : S33)]).length = ys.length + 1 := by simp
                obtain ⟨ad, e, x0, x1, x2, x3, x4⟩ := at_T33 (Kd.C_drewN HC8.out nd) (i : Int) (by omega) (by rw [hll]; omega)
                cases e
                have HCS := Aside0.mk (lns_step _ i (by rw [hll]; exact hi))
                have q0 : (0 : Int) ≤ i := by omega
                have q1 : (i : Int) < (ys.length : Int) + 1 := by omega
                clear x1 x2 x3 x4 hll
                obtain ⟨f0, hf0⟩ : ∃ f0, (rd_T33 (ys ++ [(⟨4, (⟨#[]⟩ : ByteArray), 0, 1 + (cnt l0 : Int), C⟩ : S33)]) i).f0 = f0 := ⟨_, rfl⟩
                rw [hf0] at x0 HCS
                simp only [Int.toNat_natCast] at x0
                clear hf0
                by_cases h3 : f0 = 3
                · have hb := beq_iff_eq.mpr h3
                  have H3 := Aside0.mk h3
                  clear h3
                  go_wp2
                  go_roundg (ys.length + 1 - (i + 1))
                  case measure => have := HK.out; omega
                  case rel => exact ⟨i + 1, by rw [HCS.out, if_pos H3.out], by go_num, by omega, ⟨by omega⟩, Drawn0.mk ⟨nd, rfl⟩⟩
                · have hb := beq_eq_false_iff_ne.mpr h3
                  have H3 := Aside0.mk h3
                  clear h3
                  go_wp2
                  go_roundg (ys.length + 1 - (i + 1))
                  case measure => have := HK.out; omega
                  case rel => exact ⟨i + 1, by rw [HCS.out, if_neg H3.out, Int.add_zero], by go_num, by omega, ⟨by omega⟩, Drawn0.mk ⟨nd, rfl⟩⟩
              · have hd : decide ((i : Int) < (ys.length : Int) + 1) = false := by simp; omega
                have e : i = ys.length + 1 := by omega
                subst e
                have hlns : lns ((ys ++ [(⟨4, (⟨#[]⟩ : ByteArray), 0, 1 + (cnt l0 : Int), C⟩ : S33)]).take (ys.length + 1)) = cnt l0 := by
                  rw [List.take_of_length_le (by simp)]
                  have := HN.out
                  unfold lns at *
                  rw [List.countP_append, this]
                  simp
                rw [hlns] at hcl ⊢
                clear hi il HK hlns
                have HLN := Aside0.mk (And.intro HL78.out.1 HL78.out.2)
                obtain ⟨W10, hW10⟩ : ∃ W10, W10 = W9.drewN nd := ⟨_, rfl⟩
                have HC8b := Aside0.mk (Kd.C_drewN HC8.out nd)
                have HC7b := Aside0.mk (Kd.C_drewN HC7.out nd)
                have HSqb := Aside0.mk (blk_drewN HSq.out nd)
                have HB6b := Aside0.mk (pw_below_drewN HB6.out nd)
                go_wp2_with fail
                rw [← hW10] at HC8b HC7b HSqb HB6b ⊢
                clear hW10 HC8 HC7 HSq HB6
                have hll : (ys ++ [(⟨4, (⟨#[]⟩ : ByteArray), 0, 1 + (cnt l0 : Int), C⟩ : S33)]).length = ys.length + 1 := by simp
                obtain ⟨ad, e, x0, x1, x2, x3, x4⟩ := at_T33 HC8b.out (ys.length : Int) (by omega) (by rw [hll]; omega)
                cases e
                rw [rd_last] at x0 x3
                simp only [Int.toNat_natCast] at x0 x3
                clear x1 x2 x4 hll
                have y0 := blk_cell HSqb.out 0
                obtain ⟨K, hK⟩ := same_ev ys (by omega)
                have HK1 : Aside0 (pendulumref04_Same.f K ys ys = some true) := ⟨hK K (Nat.le_refl _)⟩
                have hcc : ∀ W, Below W10.heap.size W10 W → Kd.C k33 W (some ad) ys.length ys := fun W h => by
                  have := Kd.C_take (m := ys.length) (Kd.C_below HC8b.out h) (by simp)
                  simpa using this
                have hcd : ∀ W, Below W10.heap.size W10 W → Kd.C k33 W A7 ys.length ys := fun W h => by
                  have := Kd.C_take (m := ys.length) (Kd.C_below HC7b.out h) (by simp)
                  simpa using this
                have HCC := Aside0.mk hcc
                have HCD := Aside0.mk hcd
                have q0 : (0 : Int) ≤ (ys.length : Int) := by omega
                have q1 : (ys.length : Int) < (ys.length : Int) + 1 := by omega
                have q2 : (ys.length : Int) ≤ c8 := by have := HLN.out; omega
                have q3 : (ys.length : Int) ≤ c7 := by have := HLN.out; omega
                have q4 : (1 : Int) + (cnt l0 : Int) = (cnt l0 : Int) + 1 := Int.add_comm _ _
                rw [q4] at x3
                have hw1 : IntKind.i64.wrap (ys.length : Int) = (ys.length : Int) := IntWalk.i64_in _ (by omega)
                have hw2 : IntKind.i64.wrap ((cnt l0 : Int) + 1) = (cnt l0 : Int) + 1 := IntWalk.i64_in _ (by omega)
                clear hcc hcd hK q4 HC7b HC8b
                go_quiet ((go_at_call 12; exact Calls.quiet_of ((pendulumref04_Same.calls K (some ad) c8 ys A7 c7 ys true _ (HCC.out _ (pw_below_drewN (Below.refl _ _) _)) (by omega) (HCD.out _ (pw_below_drewN (Below.refl _ _) _)) (by omega) HK1.out).mono fun e w' ⟨he, hd⟩ => ⟨he, hd.out⟩)))
                go_wp2
                go_ret
                exact ⟨rfl, pw_below_drewN HB6b.out _⟩
theorem pendulumlaw04_LexLines.walk (P : pendulumlaw04_LexLines.Pure) (a0 : Option Addr) (len0 cap0 : Nat) (z0 : List Int) (a1 : ByteArray) (w : World) (w0 : (a0 = none ∧ len0 = 0 ∧ cap0 = 0 ∧ z0 = []) ∨ ∃ x, a0 = some x ∧ len0 ≤ cap0 ∧ cap0 ≤ maxLen ∧ z0.length = cap0 ∧ (∀ i, i < z0.length → w.cell? (x.add i) = some (.int .u8 (z0.getD i 0))) ∧ ∀ n ∈ z0, (Lit.int .u8 n).wf = true) (y0 : len0 * 1 ≤ 140737488351232) (w1 : a1.size ≤ 140737488351232) :
    Calls Try.prog 7 #[.slice a0 len0 cap0, .string a1] w fun e w' => e = .returned (.bool true) ∧ Below w.heap.size w w' := by
  obtain ⟨l0, rfl, hr0, hm0, hw0, hc0⟩ := ReadsInt.ofRowC w0
  by_cases h : 3000 < l0.length ∨ 500 < a1.size
  · exact lexlines_far a0 cap0 l0 a1 w h
  · exact lexlines_near a0 cap0 l0 a1 w (Kd.C_of_reads (d := (0 : Int)) (h1 := fun _ => rfl) hr0) hc0 (ok_of_wf hw0) (by omega) (by omega) (way _ l0 (Nat.le_refl _) 1 1 (Int.le_refl _))
end Go.Proofs.Ytbopjoeihoignaa.Q
