-- LexBack, walked by hand.
-- HAND pendulum/pendulumlaw04.LexBack rounds=0 making=1
-- NEEDS pendulum/pendulumlaw04.awake pendulum/lex.Tokens
import Derived.Test.YtbopjoeihoignaaQ0
import Derived.Test.YtbopjoeihoignaaQ0
import Derived.Test.YtbopjoeihoignaaHlex
import Derived.Test.YtbopjoeihoignaaHlexA
import Derived.Test.YtbopjoeihoignaaHlexD
import Derived.Test.YtbopjoeihoignaaHlexLin
import Derived.Test.YtbopjoeihoignaaHlexW
import Derived.Test.YtbopjoeihoignaaLlex
import Derived.Test.YtbopjoeihoignaaLlexB
import Derived.Test.YtbopjoeihoignaaLlexJ
import Derived.Test.YtbopjoeihoignaaLlexR
import Derived.OpenShut
import Derived.WalkSpells
import Derived.IntWalk
import Derived.Lib.SlBytesConst
namespace Go.Proofs.Ytbopjoeihoignaa.Q
open Go.RowKit Go.Proofs.YtbopjoeihoignaaW.PrintWords Go.Proofs.YtbopjoeihoignaaW.PrintLast Go.Proofs.YtbopjoeihoignaaW.PrintMore
attribute [local go_sem] max2_int min2_int max_two min_two max_three min_three max_four min_four   -- for this text's walks alone
set_option linter.unusedVariables false
set_option linter.unusedSimpArgs false

def pendulumlaw04_LexBack.f (a0 : List Int) : Option Bool := some true
def pendulumlaw04_LexBack.Pure : Prop := True
theorem strOfNums_bytesOf (s : ByteArray) : strOfNums (bytesOf s) = s := by
  apply ByteArray.ext
  unfold strOfNums bytesOf
  simp only [List.map_map]
  have : ((fun n : Int => UInt8.ofNat n.toNat) ∘ fun b : UInt8 => (b.toNat : Int)) = id := by
    funext b
    simp
  rw [this]
  simp
/-- Where the law's reading of lines stands. -/
def BackAt (l : List Int) (line : Int) (q p : Nat) : Prop := LS l line q ∧ q ≤ p ∧ p ≤ l.length ∧ line = 1 + (cnt (l.take p) : Int)
theorem BackAt.step {l : List Int} {line : Int} {q p : Nat} (h : BackAt l line q p) (hp : p < l.length) : (rd l p = 10 → BackAt l (line + 1) (p + 1) (p + 1)) ∧ (rd l p ≠ 10 → BackAt l line q (p + 1)) := by
  obtain ⟨h1, h2, h3, h4⟩ := h
  have hc := cnt_take_step l p hp
  refine ⟨fun e => ?_, fun e => ?_⟩
  · have hn := LS.next hp e
    rw [← h4] at hn
    exact ⟨hn, Nat.le_refl _, by omega, by rw [hc, if_pos e]; omega⟩
  · exact ⟨h1, by omega, by omega, by rw [hc, if_neg e]; omega⟩
theorem BackAt.less {l : List Int} {line : Int} {q p : Nat} (h : BackAt l line q p) {n : Int} {q' : Nat} (h' : LS l n q') (hl : line < n) : p < l.length ∧ (rd l p = 10 → line + 1 ≤ n) := by
  obtain ⟨h1, h2, h3, h4⟩ := h
  have hpq : p < q' := by
    rcases Nat.lt_or_ge p q' with hh | hh
    · exact hh
    · have := cnt_mono hh h3; have := h'.2.1; omega
  exact ⟨by have := h'.1; omega, fun _ => by omega⟩
theorem rend_step (l : List S33) (i : Nat) (h : i < l.length) : rend (l.take (i + 1)) = rend (l.take i) ++ rend [rd_T33 l i] := by
  have e : l.take (i + 1) = l.take i ++ [rd_T33 l i] := by
    rw [List.take_succ_eq_append_getElem h]
    simp [rd_T33, List.getD_eq_getElem?_getD, List.getElem?_eq_getElem h]
  rw [e, rend_append]
theorem rend_le (l : List S33) (i : Nat) : (rend (l.take i)).length ≤ (rend l).length := by
  have : rend l = rend (l.take i) ++ rend (l.drop i) := by rw [← rend_append, List.take_append_drop]
  rw [this, List.length_append]; omega
theorem rd_next {l : List S33} (hm : l.Pairwise (fun a b => a.f3 ≤ b.f3)) {i : Nat} (h : i + 1 < l.length) : (rd_T33 l i).f3 ≤ (rd_T33 l ((i : Int) + 1)).f3 := by
  have := List.pairwise_iff_getElem.1 hm i (i + 1) (by omega) h (by omega)
  unfold rd_T33
  have e : (((i : Int) + 1)).toNat = i + 1 := by omega
  rw [e]
  simpa [List.getD_eq_getElem?_getD, List.getElem?_eq_getElem h, List.getElem?_eq_getElem (show i < l.length by omega)] using this
theorem keys_at {us r1 : List S33} (h : us.map keyT = r1.map keyT) {i : Nat} (hi : i < r1.length) : keyT (rd_T33 us i) = keyT (rd_T33 r1 i) := by
  have hl : us.length = r1.length := by have := congrArg List.length h; simpa using this
  have h2 := congrArg (fun l => l[i]?) h
  simp only [List.getElem?_map, List.getElem?_eq_getElem hi, List.getElem?_eq_getElem (show i < us.length by omega), Option.map_some, Option.some.injEq] at h2
  unfold rd_T33
  simpa [List.getD_eq_getElem?_getD, List.getElem?_eq_getElem hi, List.getElem?_eq_getElem (show i < us.length by omega)] using h2
theorem rdT_mem {l : List S33} {i : Nat} (h : i < l.length) : rd_T33 l i ∈ l := by
  unfold rd_T33
  simp [List.getD_eq_getElem?_getD, List.getElem?_eq_getElem h]
set_option maxHeartbeats 2000000 in
set_option maxRecDepth 100000 in
theorem lexback_far (A0 : Option Addr) (c0 : Nat) (l0 : List Int) (w : World) (h1 : 5000 < l0.length) :
    Calls Try.prog 4 #[.slice A0 l0.length c0] w fun e w' => e = .returned (.bool true) ∧ Below w.heap.size w w' := by
  have HB := Aside0.mk (Below.refl w.heap.size w)
  have d1 : decide ((5000 : Int) < (l0.length : Int)) = true := by simp; omega
  clear h1
  go_enter Try.func4, Try.ntmps4
  go_wp2_with (go_at_call 9; (with_reducible refine (pendulumlaw04_awake.calls true _ rfl).mono ?_); rintro e wA ⟨rfl, hb⟩; have HB1 := Aside0.mk (below_step HB.out hb); clear HB hb; have HB := HB1; clear HB1)
  go_ret
  exact ⟨rfl, HB.out⟩
set_option maxHeartbeats 2000000 in
set_option maxRecDepth 100000 in
theorem lexback_err (A0 : Option Addr) (c0 : Nat) (l0 : List Int) (w : World) (hr0 : Kd.C (Kd.int .u8) w A0 l0.length l0) (hc0 : l0.length ≤ c0) (h1 : l0.length ≤ 5000) (e1 e2 e3 : Int) (hF : lex_Tokens.f l0 = some ([], e1, e2, e3)) (h2 : e1 = 2 ∨ e1 = 5) (h3 : 1 ≤ e2) (h4 : 1 ≤ e3) :
    Calls Try.prog 4 #[.slice A0 l0.length c0] w fun e w' => e = .returned (.bool true) ∧ Below w.heap.size w w' := by
  have HB := Aside0.mk (Below.refl w.heap.size w)
  have d1 : decide ((5000 : Int) < (l0.length : Int)) = false := by simp; omega
  have HR0 := Aside0.mk hr0
  have HC0 := Aside0.mk hc0
  have HF := Aside0.mk hF
  have d3 : decide ((1 : Int) ≤ e2) = true := decide_eq_true h3
  have d4 : decide ((1 : Int) ≤ e3) = true := decide_eq_true h4
  clear hr0 hc0 hF h1
  rcases h2 with rfl | rfl
  all_goals
    go_enter Try.func4, Try.ntmps4
    go_wp2_with (first | (go_at_call 9; (with_reducible refine (pendulumlaw04_awake.calls true _ rfl).mono ?_); rintro e wA ⟨rfl, hb⟩; have HB1 := Aside0.mk (below_step HB.out hb); clear HB hb; have HB := HB1; clear HB1) | (go_at_call 10; (with_reducible refine (lex_Tokens.calls A0 c0 l0 _ _ _ _ _ ?side1 HC0.out HF.out).mono ?_); (case side1 => exact Kd.C_below HR0.out HB.out); rintro e w1 ⟨v0, rfl, ho, hb⟩; obtain ⟨A1, c1, rfl, _, _⟩ := Kd.R_reads ho; have HB1 := Aside0.mk (below_step HB.out hb); clear HB hb ho; have HB := HB1; clear HB1))
    go_ret
    exact ⟨rfl, below_alloc HB.out _⟩
set_option maxHeartbeats 4000000 in
set_option maxRecDepth 100000 in
theorem lexback_ok (A0 : Option Addr) (c0 : Nat) (l0 : List Int) (w : World) (hr0 : Kd.C (Kd.int .u8) w A0 l0.length l0) (hc0 : l0.length ≤ c0) (h1 : l0.length ≤ 5000) (r1 us : List S33) (hF : lex_Tokens.f l0 = some (r1, 0, 0, 0)) (hF2 : lex_Tokens.f (rend r1) = some (us, 0, 0, 0)) (hk : us.map keyT = r1.map keyT)
    (hat : ∀ t ∈ r1, TokAt l0 t ∧ 1 ≤ t.f3) (hmo : r1.Pairwise (fun a b => a.f3 ≤ b.f3)) (hkd : ∀ t ∈ r1, t.f0 = 1 ∨ t.f0 = 2 ∨ t.f0 = 3 ∨ t.f0 = 4) (hrl : (rend r1).length ≤ 10000) (hrr : r1.length ≤ 5001) :
    Calls Try.prog 4 #[.slice A0 l0.length c0] w fun e w' => e = .returned (.bool true) ∧ Below w.heap.size w w' := by
  have HB := Aside0.mk (Below.refl w.heap.size w)
  have d1 : decide ((5000 : Int) < (l0.length : Int)) = false := by simp; omega
  have HR0 := Aside0.mk hr0
  have HC0 := Aside0.mk hc0
  have HF := Aside0.mk hF
  have HF2 := Aside0.mk hF2
  have HK := Aside0.mk hk
  have HAT := Aside0.mk hat
  have HMO := Aside0.mk hmo
  have HKD := Aside0.mk hkd
  clear hr0 hc0 hF hF2 hk hat hmo hkd
  go_enter Try.func4, Try.ntmps4
  go_wp2_with (first | (go_at_call 9; (with_reducible refine (pendulumlaw04_awake.calls true _ rfl).mono ?_); rintro e wA ⟨rfl, hb⟩; have HB1 := Aside0.mk (below_step HB.out hb); clear HB hb; have HB := HB1; clear HB1) | (go_at_call 10; (with_reducible refine (lex_Tokens.calls A0 c0 l0 _ _ _ _ _ ?side1 HC0.out HF.out).mono ?_); (case side1 => exact Kd.C_below HR0.out HB.out); rintro e w1 ⟨v0, rfl, ho, hb⟩; obtain ⟨A1, c1, rfl, hl1, hC1⟩ := Kd.R_reads ho; have HC1 := Aside0.mk hC1; have HL1 := Aside0.mk hl1; have HB1 := Aside0.mk (below_step HB.out hb); clear HB hb ho hC1 hl1; have HB := HB1; clear HB1))
  obtain ⟨W1, hW1⟩ : ∃ W1, W1 = w1.alloc (.cells #[.int .i64 0, .int .i64 0, .int .i64 0] 27) := ⟨_, rfl⟩
  have HB8 := Aside0.mk (below_alloc HB.out (.cells #[.int .i64 0, .int .i64 0, .int .i64 0] 27))
  have HC2 := Aside0.mk (Kd.C_alloc HC1.out (.cells #[.int .i64 0, .int .i64 0, .int .i64 0] 27))
  rw [← hW1] at HB8 HC2 ⊢
  clear hW1 HB HC1
  go_loopg [5, 6, 7, 8, 9] (r1.length) (fun kq v5 v6 v7 v8 v9 wr => ∃ (i q p : Nat) (line : Int), v6 = .int .i64 line ∧ v7 = .int .i64 q ∧ v8 = .int .i64 p ∧ v9 = .int .i64 i ∧ i ≤ r1.length ∧ q ≤ l0.length ∧ p ≤ l0.length ∧ 1 ≤ line ∧ line ≤ 5001 ∧ Aside0 (kq + i = r1.length) ∧ Aside0 (BackAt l0 line q p) ∧ Aside0 (i < r1.length → line ≤ (rd_T33 r1 i).f3) ∧ Aside0 (Below W1.heap.size W1 wr) ∧ Aside0 (Kd.R (Kd.int .u8) 5 wr W1.heap.size (fun _ => True) v5 (rend (r1.take i))))
  case atStart => exact ⟨0, 0, 0, 1, rfl, rfl, rfl, rfl, by omega, by omega, by omega, by omega, by omega, ⟨rfl⟩, ⟨⟨by omega, by simp [cnt], .inl rfl⟩, by omega, by omega, by simp [cnt]⟩, ⟨fun h => (HAT.out _ (rdT_mem h)).2⟩, ⟨Below.refl _ _⟩, ⟨Kd.R_nil _ _ _ _ _⟩⟩
  case round =>
    obtain ⟨i, q, p, line, rfl, rfl, rfl, rfl, il, ql, pl, li0, li1, HKK, HQ, HLI, HBr, HO⟩ := hrel
    by_cases hi : i < r1.length
    · have hd : decide ((i : Int) < (r1.length : Int)) = true := by simp; omega
      obtain ⟨t, ht⟩ : ∃ t, rd_T33 r1 i = t := ⟨_, rfl⟩
      have htm := rdT_mem hi
      obtain ⟨bd, e, y0, y1, y2, y3, y4⟩ := at_T33 (Kd.C_below HC2.out HBr.out) (i : Int) (by omega) (by omega)
      cases e
      have hli := HLI.out hi
      rw [ht] at y0 y1 y2 y3 y4 htm hli
      have HT := Aside0.mk ht
      obtain ⟨t0, t1, t2, t3, t4⟩ := t
      have HTA := Aside0.mk (HAT.out _ htm)
      have HTK := Aside0.mk (HKD.out _ htm)
      have i0 : (0 : Int) ≤ i := by omega
      have i1 : (i : Int) < (r1.length : Int) := by omega
      simp only [Int.toNat_natCast] at y0 y1 y2 y3 y4
      dsimp only at hli
      clear htm ht HLI
      obtain ⟨q', fr, hls', hfr, hfit, htxt, h40, h41⟩ := HTA.out.1
      dsimp only at hls' hfr hfit htxt h40 h41
      have hcl : cnt (l0.take q') ≤ l0.length := Nat.le_trans (cnt_le l0 q') hls'.1
      have h3a : 1 ≤ t3 := HTA.out.2
      have h3b : t3 ≤ 5001 := by have := hls'.2.1; omega
      have HLS := Aside0.mk hls'
      have HFR := Aside0.mk hfr
      have HTX := Aside0.mk htxt
      have hsz : (t1.size : Int) ≤ 5000 := by omega
      clear hls' hfr htxt hcl
      go_wp2_with fail
      obtain ⟨W2, hW2⟩ : ∃ W2, W2 = wr.alloc (.cells #[.int .i64 t0, .string t1, .int .i64 t2, .int .i64 t3, .int .i64 t4] 33) := ⟨_, rfl⟩
      obtain ⟨gw, hgw⟩ : ∃ gw, gw = wr.heap.size := ⟨_, rfl⟩
      have HBK := Aside0.mk (blk_new wr (.cells #[.int .i64 t0, .string t1, .int .i64 t2, .int .i64 t3, .int .i64 t4] 33))
      have HBs := Aside0.mk (below_alloc HBr.out (.cells #[.int .i64 t0, .string t1, .int .i64 t2, .int .i64 t3, .int .i64 t4] 33))
      have HOs := Aside0.mk (Kd.R_alloc HO.out (.cells #[.int .i64 t0, .string t1, .int .i64 t2, .int .i64 t3, .int .i64 t4] 33))
      rw [← hW2] at HBK HBs HOs ⊢
      rw [← hgw] at HBK ⊢
      clear hW2 hgw HBr HO y0 y1 y2 y3 y4
      have k3 := blk_cell HBK.out 3
      go_loopg [6, 7, 8] (l0.length - p) (fun kq v6 v7 v8 wr2 => ∃ (q p : Nat) (line : Int), v6 = .int .i64 line ∧ v7 = .int .i64 q ∧ v8 = .int .i64 p ∧ q ≤ l0.length ∧ p ≤ l0.length ∧ 1 ≤ line ∧ line ≤ t3 ∧ Aside0 (kq + p = l0.length) ∧ Aside0 (BackAt l0 line q p) ∧ Drawn0 W2 wr2)
      case atStart => exact ⟨q, p, line, rfl, rfl, rfl, ql, pl, li0, hli, ⟨by omega⟩, HQ, Drawn0.refl _⟩
      case round =>
        clear HQ li0 li1 hli ql pl
        obtain ⟨q, p, line, rfl, rfl, rfl, ql, pl, li0, li1, HKB, HQ, ⟨nd, rfl⟩⟩ := hrel
        by_cases hlt : line < t3
        · have hd3 : decide (line < t3) = true := decide_eq_true hlt
          obtain ⟨hpl, hst⟩ := BackAt.less HQ.out HLS.out hlt
          have hd4 : decide ((p : Int) < (l0.length : Int)) = true := by simp; omega
          obtain ⟨cd, e, hc⟩ := Kd.at_int HR0.out (p : Int) (by omega) (by omega)
          cases e
          replace hc := (((below_step HB8.out HBs.out).cell (World.block_lt_of_cell? w _ hc)).trans hc)
          simp only [Int.toNat_natCast] at hc
          have HST := Aside0.mk (HQ.out.step hpl)
          have p0 : (0 : Int) ≤ p := by omega
          have p1 : (p : Int) < (l0.length : Int) := by omega
          have HSU := Aside0.mk hst
          clear hst
          by_cases h10 : rd l0 p = 10
          · have hb := beq_iff_eq.mpr h10
            have H10 := Aside0.mk h10
            clear h10
            go_wp2
            go_roundg (l0.length - (p + 1))
            case measure => have := HKB.out; omega
            case rel => exact ⟨p + 1, p + 1, line + 1, rfl, by go_num, by go_num, by omega, by omega, by omega, HSU.out H10.out, ⟨by omega⟩, ⟨HST.out.1 H10.out⟩, Drawn0.mk ⟨nd, rfl⟩⟩
          · have hb := beq_eq_false_iff_ne.mpr h10
            have H10 := Aside0.mk h10
            clear h10
            go_wp2
            go_roundg (l0.length - (p + 1))
            case measure => have := HKB.out; omega
            case rel => exact ⟨q, p + 1, line, rfl, rfl, by go_num, by omega, by omega, by omega, by omega, ⟨by omega⟩, ⟨HST.out.2 H10.out⟩, Drawn0.mk ⟨nd, rfl⟩⟩
        · have hd3 : decide (line < t3) = false := decide_eq_false hlt
          have e3 : line = t3 := by omega
          subst e3
          have e4 : q = q' := HQ.out.1.uniq HLS.out
          subst e4
          clear hlt li1 HKB HLS
          have hfr2 := HFR.out
          have k0 := blk_cell HBK.out 0
          have k1 := blk_cell HBK.out 1
          have k4 := blk_cell HBK.out 4
          go_wp2_with fail
          rw [← hfr2]
          clear hfr2
          obtain ⟨W3, hW3⟩ : ∃ W3, W3 = W2.drewN nd := ⟨_, rfl⟩
          have HB3 := Aside0.mk (pw_below_drewN HBs.out nd)
          have HO3 := Aside0.mk (Kd.R_drewN HOs.out nd)
          have HK3 := Aside0.mk (blk_drewN HBK.out nd)
          rw [← hW3] at HB3 HO3 HK3 ⊢
          clear hW3 k0 k1 k3 k4 HBs HOs HBK
          have k0 := blk_cell HK3.out 0
          have k1 := blk_cell HK3.out 1
          have k3 := blk_cell HK3.out 3
          obtain ⟨A', n', c', hcut, hcv0⟩ := cut_str w fr (fr + t1.size) (by omega) hfit HR0.out HC0.out
          have hstr : strOfNums ((l0.take (fr + t1.size)).drop fr) = t1 := by
            rw [List.drop_take, Nat.add_sub_cancel_left, HTX.out, strOfNums_bytesOf]
          rw [hstr] at hcv0
          rw [Int.natCast_add] at hcut
          have hcv := fun m => hcv0 (W3.drewN m) (pw_below_drewN (below_step HB8.out HB3.out) m)
          have hw1 : IntKind.i64.wrap ((fr : Int) + (t1.size : Int)) = (fr : Int) + (t1.size : Int) := IntWalk.i64_in _ (by omega)
          have hd5 : decide ((l0.length : Int) < (fr : Int) + (t1.size : Int)) = false := by simp; omega
          clear hstr hcv0
          go_quiet (fail)
          clear hcut hcv hw1 hd5
          rcases HTK.out with h0 | h0 | h0 | h0
          · subst h0
            go_wp2_with (first
              | ((with_reducible refine gate_ (.convert 9 22 (.tmp 129)) rfl ?_); refine conv_event rfl rfl rfl (by omega) ?_; intro A cc w4 hC hcc hB2; have HC4 := Aside0.mk hC; have HB4 := Aside0.mk (below_step (pw_below_drewN HB3.out _) hB2); have HO4 := Aside0.mk (Kd.R_below (Kd.R_drewN HO3.out _) hB2); clear hC hcc hB2 HB3 HO3)
              | ((with_reducible refine gate_builtin (b := .append) (xs := #[.tmp 127, .tmp 130]) rfl ?_); at_builtin; refine Kd.R_append_rows (Kd.int .u8) (w0 := W1) W1.heap.size rfl (.tmp 127) (.tmp 130) 22 5 (.int .u8 0) 1 rfl Try.underlying22 lex_info5 rfl (by decide) (by omega) _ (rend (r1.take i)) (bytesOf t1) _ _ _ (fun _ => True) (fun _ => False) rfl rfl HO4.out HC4.out (fun _ _ h => h) (fun _ h => h.elim) (fun _ _ => trivial) HB4.out (below_size HB4.out) ?aL ?_; (case aL => have := rend_le r1 i; rw [bytesOf_length]; omega); intro v5 w5 ho hb hg hat; have HB5 := Aside0.mk hb; have HO5 := Aside0.mk ho; clear HB4 HO4 HC4 ho hb hg hat)
              | ((with_reducible refine gate_builtin (b := .append) (xs := #[.tmp 131, .tmp 132]) rfl ?_); at_builtin; refine Kd.R_append (Kd.int .u8) (w0 := W1) W1.heap.size rfl (.tmp 131) (.tmp 132) 22 5 (.int .u8 0) 1 rfl Try.underlying22 lex_info5 rfl (by decide) (by omega) v5 (rend (r1.take i) ++ bytesOf t1) (32 : Int) [.int .u8 32] (fun _ => True) (fun _ => False) rfl rfl ?aP (fun _ hk => hk.elim) (fun _ _ => trivial) HO5.out HB5.out (below_size HB5.out) ?aL ?_; (case aP => exact rfl); (case aL => have := rend_le r1 i; rw [List.length_append, bytesOf_length]; omega); intro v6 w6 ho hb hg hat; have HB6 := Aside0.mk hb; have HO6 := Aside0.mk ho; clear HB5 HO5 ho hb hg hat))
            go_roundg (r1.length - (i + 1))
            case measure => have := HKK.out; omega
            case rel =>
              refine ⟨i + 1, q, p, line, rfl, rfl, rfl, by go_num, by omega, by omega, by omega, by omega, by omega, ⟨by omega⟩, HQ, ⟨fun h => ?_⟩, HB6, ⟨?_⟩⟩
              · have := rd_next HMO.out h; rw [HT.out] at this; exact this
              · rw [rend_step r1 i hi, HT.out]
                have := HO6.out
                rw [List.append_assoc] at this
                rw [rend, rend, List.append_nil, if_neg (by simp), if_neg (by simp)]
                exact this
          · subst h0
            go_wp2_with (first
              | ((with_reducible refine gate_ (.convert 9 22 (.tmp 129)) rfl ?_); refine conv_event rfl rfl rfl (by omega) ?_; intro A cc w4 hC hcc hB2; have HC4 := Aside0.mk hC; have HB4 := Aside0.mk (below_step (pw_below_drewN HB3.out _) hB2); have HO4 := Aside0.mk (Kd.R_below (Kd.R_drewN HO3.out _) hB2); clear hC hcc hB2 HB3 HO3)
              | ((with_reducible refine gate_builtin (b := .append) (xs := #[.tmp 127, .tmp 130]) rfl ?_); at_builtin; refine Kd.R_append_rows (Kd.int .u8) (w0 := W1) W1.heap.size rfl (.tmp 127) (.tmp 130) 22 5 (.int .u8 0) 1 rfl Try.underlying22 lex_info5 rfl (by decide) (by omega) _ (rend (r1.take i)) (bytesOf t1) _ _ _ (fun _ => True) (fun _ => False) rfl rfl HO4.out HC4.out (fun _ _ h => h) (fun _ h => h.elim) (fun _ _ => trivial) HB4.out (below_size HB4.out) ?aL ?_; (case aL => have := rend_le r1 i; rw [bytesOf_length]; omega); intro v5 w5 ho hb hg hat; have HB5 := Aside0.mk hb; have HO5 := Aside0.mk ho; clear HB4 HO4 HC4 ho hb hg hat)
              | ((with_reducible refine gate_builtin (b := .append) (xs := #[.tmp 131, .tmp 132]) rfl ?_); at_builtin; refine Kd.R_append (Kd.int .u8) (w0 := W1) W1.heap.size rfl (.tmp 131) (.tmp 132) 22 5 (.int .u8 0) 1 rfl Try.underlying22 lex_info5 rfl (by decide) (by omega) v5 (rend (r1.take i) ++ bytesOf t1) (32 : Int) [.int .u8 32] (fun _ => True) (fun _ => False) rfl rfl ?aP (fun _ hk => hk.elim) (fun _ _ => trivial) HO5.out HB5.out (below_size HB5.out) ?aL ?_; (case aP => exact rfl); (case aL => have := rend_le r1 i; rw [List.length_append, bytesOf_length]; omega); intro v6 w6 ho hb hg hat; have HB6 := Aside0.mk hb; have HO6 := Aside0.mk ho; clear HB5 HO5 ho hb hg hat))
            go_roundg (r1.length - (i + 1))
            case measure => have := HKK.out; omega
            case rel =>
              refine ⟨i + 1, q, p, line, rfl, rfl, rfl, by go_num, by omega, by omega, by omega, by omega, by omega, ⟨by omega⟩, HQ, ⟨fun h => ?_⟩, HB6, ⟨?_⟩⟩
              · have := rd_next HMO.out h; rw [HT.out] at this; exact this
              · rw [rend_step r1 i hi, HT.out]
                have := HO6.out
                rw [List.append_assoc] at this
                rw [rend, rend, List.append_nil, if_neg (by simp), if_neg (by simp)]
                exact this
          · subst h0
            go_wp2_with (first
              | ((with_reducible refine gate_builtin (b := .append) (xs := #[.tmp 121, .tmp 122]) rfl ?_); at_builtin; refine Kd.R_append (Kd.int .u8) (w0 := W1) W1.heap.size rfl (.tmp 121) (.tmp 122) 22 5 (.int .u8 0) 1 rfl Try.underlying22 lex_info5 rfl (by decide) (by omega) _ (rend (r1.take i)) (10 : Int) [.int .u8 10] (fun _ => True) (fun _ => False) rfl rfl ?aP (fun _ hk => hk.elim) (fun _ _ => trivial) (Kd.R_drewN HO3.out _) (pw_below_drewN HB3.out _) (below_size (pw_below_drewN HB3.out _)) ?aL ?_; (case aP => exact rfl); (case aL => have := rend_le r1 i; omega); intro v6 w6 ho hb hg hat; have HB6 := Aside0.mk hb; have HO6 := Aside0.mk ho; clear HB3 HO3 ho hb hg hat))
            go_roundg (r1.length - (i + 1))
            case measure => have := HKK.out; omega
            case rel =>
              refine ⟨i + 1, q, p, line, rfl, rfl, rfl, by go_num, by omega, by omega, by omega, by omega, by omega, ⟨by omega⟩, HQ, ⟨fun h => ?_⟩, HB6, ⟨?_⟩⟩
              · have := rd_next HMO.out h; rw [HT.out] at this; exact this
              · rw [rend_step r1 i hi, HT.out]
                exact HO6.out
          · subst h0
            go_wp2
            go_roundg (r1.length - (i + 1))
            case measure => have := HKK.out; omega
            case rel =>
              refine ⟨i + 1, q, p, line, rfl, rfl, rfl, by go_num, by omega, by omega, by omega, by omega, by omega, ⟨by omega⟩, HQ, ⟨fun h => ?_⟩, ⟨pw_below_drewN HB3.out _⟩, ⟨?_⟩⟩
              · have := rd_next HMO.out h; rw [HT.out] at this; exact this
              · rw [rend_step r1 i hi, HT.out]
                have := Kd.R_drewN HO3.out nq
                rw [← List.append_nil (rend (r1.take i))] at this
                exact this
    · have hd : decide ((i : Int) < (r1.length : Int)) = false := by simp; omega
      have e : i = r1.length := by omega
      subst e
      rw [List.take_length] at HO
      have hlu : us.length = r1.length := by have := congrArg List.length HK.out; simpa using this
      have HLU := Aside0.mk hlu
      obtain ⟨A5, c5, e5, hl5, hC5⟩ := Kd.R_reads HO.out
      clear hi hlu
      subst e5
      go_wp2_with fail
      refine (lex_Tokens.calls A5 c5 _ _ _ _ _ _ hC5 hl5 HF2.out).mono ?_
      rintro ee w7 ⟨v7, rfl, hR7, hB7⟩
      obtain ⟨A7, c7, e7, hl7, hC7⟩ := Kd.R_reads hR7
      rw [HLU.out] at e7
      subst e7
      have HC7 := Aside0.mk (Kd.C_alloc hC7 (.cells #[.int .i64 0, .int .i64 0, .int .i64 0] 27))
      have HC8 := Aside0.mk (Kd.C_alloc (Kd.C_below (Kd.C_below HC2.out HBr.out) hB7) (.cells #[.int .i64 0, .int .i64 0, .int .i64 0] 27))
      have HB9 := Aside0.mk (below_alloc (below_step (below_step HB8.out HBr.out) hB7) (.cells #[.int .i64 0, .int .i64 0, .int .i64 0] 27))
      clear hC5 hl5 hR7 hB7 hl7 hC7 HO HBr HLI
      go_wp2_with fail
      obtain ⟨W9, hW9⟩ : ∃ W9, W9 = w7.alloc (.cells #[.int .i64 0, .int .i64 0, .int .i64 0] 27) := ⟨_, rfl⟩
      rw [← hW9] at HC7 HC8 HB9 ⊢
      clear hW9
      go_loopg [14] (r1.length) (fun kq v14 wr3 => ∃ i : Nat, v14 = .int .i64 i ∧ i ≤ r1.length ∧ Aside0 (kq + i = r1.length) ∧ Drawn0 W9 wr3)
      case atStart => exact ⟨0, rfl, by omega, ⟨rfl⟩, Drawn0.refl _⟩
      case round =>
        obtain ⟨i, rfl, il, HK3, ⟨nd, rfl⟩⟩ := hrel
        by_cases hi : i < r1.length
        · have hd : decide ((i : Int) < (r1.length : Int)) = true := by simp; omega
          obtain ⟨W10, hW10⟩ : ∃ W10, W10 = W9.drewN nd := ⟨_, rfl⟩
          have hC7 := Kd.C_drewN HC7.out nd
          have hC8 := Kd.C_drewN HC8.out nd
          rw [← hW10] at hC7 hC8 ⊢
          have HW10 := Aside0.mk hW10
          clear hW10
          obtain ⟨ad7, e, x0, x1, x2, x3, x4⟩ := at_T33 hC7 (i : Int) (by omega) (by rw [HLU.out]; omega)
          cases e
          obtain ⟨ad8, e, y0, y1, y2, y3, y4⟩ := at_T33 hC8 (i : Int) (by omega) (by omega)
          cases e
          have hke := keys_at HK.out hi
          obtain ⟨t, ht⟩ : ∃ t, rd_T33 us i = t := ⟨_, rfl⟩
          obtain ⟨u, hu⟩ : ∃ u, rd_T33 r1 i = u := ⟨_, rfl⟩
          rw [ht] at x0 x1 x2 x3 x4 hke
          rw [hu] at y0 y1 y2 y3 y4 hke
          obtain ⟨t0, t1, t2, t3, t4⟩ := t
          obtain ⟨u0, u1, u2, u3, u4⟩ := u
          simp only [keyT, Prod.mk.injEq] at hke
          obtain ⟨rfl, rfl, rfl, rfl⟩ := hke
          simp only [Int.toNat_natCast] at x0 x1 x2 x3 x4 y0 y1 y2 y3 y4
          have i0 : (0 : Int) ≤ i := by omega
          have i1 : (i : Int) < (r1.length : Int) := by omega
          clear hC7 hC8 ht hu x4 y4
          go_wp2_with fail
          go_quiet (fail)
          go_wp2
          go_roundg (r1.length - (i + 1))
          case measure => have := HK3.out; omega
          case rel => exact ⟨i + 1, by go_num, by omega, ⟨by omega⟩, Drawn0.mk ⟨nd + nq, by rw [HW10.out]; simp⟩⟩
        · have hd : decide ((i : Int) < (r1.length : Int)) = false := by simp; omega
          go_wp2
          go_ret
          exact ⟨rfl, pw_below_drewN HB9.out _⟩
theorem pendulumlaw04_LexBack.walk (P : pendulumlaw04_LexBack.Pure) (a0 : Option Addr) (len0 cap0 : Nat) (z0 : List Int) (w : World) (w0 : (a0 = none ∧ len0 = 0 ∧ cap0 = 0 ∧ z0 = []) ∨ ∃ x, a0 = some x ∧ len0 ≤ cap0 ∧ cap0 ≤ maxLen ∧ z0.length = cap0 ∧ (∀ i, i < z0.length → w.cell? (x.add i) = some (.int .u8 (z0.getD i 0))) ∧ ∀ n ∈ z0, (Lit.int .u8 n).wf = true) (y0 : len0 * 1 ≤ 140737488351232) :
    Calls Try.prog 4 #[.slice a0 len0 cap0] w fun e w' => e = .returned (.bool true) ∧ Below w.heap.size w w' := by
  obtain ⟨l0, rfl, hr0, hm0, hw0, hc0⟩ := ReadsInt.ofRowC w0
  by_cases h : 5000 < l0.length
  · exact lexback_far a0 cap0 l0 w h
  · have o0 := ok_of_wf hw0
    have hC := Kd.C_of_reads (d := (0 : Int)) (h1 := fun _ => rfl) hr0
    have hl0 : lexToks l0 = toks (l0.length + 1) (l0.drop 0) 1 (((0 : Nat) : Int) - ((0 : Nat) : Int) + 1) [] := rfl
    cases way _ l0 (Nat.le_refl _) 1 1 (Int.le_refl _) with
    | err e l c he hl hc g0 g1 g2 =>
      have e1 : lexToks l0 = ([], e, l, c) := g0 _ _ (by omega)
      exact lexback_err a0 cap0 l0 w hC hc0 (by omega) e l c (by rw [lex_some (by omega) o0, e1]) he hl hc
    | ok ys C hn hk hy g0 g1 g2 =>
      have e1 : lexToks l0 = ([] ++ ys ++ [⟨4, (⟨#[]⟩ : ByteArray), 0, 1 + (cnt l0 : Int), C⟩], 0, 0, 0) := g0 _ _ (by omega)
      have hz : (toks (l0.length + 1) (l0.drop 0) 1 (((0 : Nat) : Int) - ((0 : Nat) : Int) + 1) []).2.1 = 0 := by rw [← hl0, e1]
      obtain ⟨ts, e, a1, a2, a3, a4, a5, a6, a7, a8, a9⟩ := toks_at l0 o0 (l0.length + 1) 0 0 1 [] (by omega) (by omega) ⟨by omega, by simp [cnt], .inl rfl⟩ (by omega) (by simp [cnt]) hz
      rw [← hl0] at a1
      obtain ⟨us, b1, b2⟩ := a9 ((rend (ts ++ [e])).length + 1) 1 [] (by omega)
      rw [List.nil_append] at a1 b1
      refine lexback_ok a0 cap0 l0 w hC hc0 (by omega) (ts ++ [e]) us (by rw [lex_some (by omega) o0, a1]) (by rw [lex_some (by omega) a7]; exact congrArg some b1) b2 a2 a3 (fun t ht => ?_) (by omega) (by simp; omega)
      rcases List.mem_append.1 ht with ht | ht
      · rcases a5 t ht with h | h | h
        · exact .inl h
        · exact .inr (.inl h)
        · exact .inr (.inr (.inl h))
      · simp at ht; subst ht; exact .inr (.inr (.inr a4))
end Go.Proofs.Ytbopjoeihoignaa.Q
