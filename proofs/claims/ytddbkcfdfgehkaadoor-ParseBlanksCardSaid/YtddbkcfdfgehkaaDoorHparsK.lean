-- ParseBlanks: walked by hand (printed by wip/genblanks.py).
-- HAND pendulum/pendulumlaw06.ParseBlanks rounds=0 making=1
-- NEEDS pendulum/lex.Tokens pendulum/pendulumlaw06.awake pendulum/pendulumref05.Same
import Derived.Test.YtddbkcfdfgehkaaDoorM0
import Derived.Test.YtddbkcfdfgehkaaDoorM5
import Derived.Test.YtddbkcfdfgehkaaDoorHparsF
import Derived.Test.YtddbkcfdfgehkaaDoorM12
import Derived.Test.YtddbkcfdfgehkaaDoorM10
import Derived.Test.YtddbkcfdfgehkaaDoorHparsH
import Derived.OpenShut
import Derived.WalkSpells
import Derived.IntWalk
import Derived.Lib.SlBytesConst
namespace Go.Proofs.YtddbkcfdfgehkaaDoor.Q
open Go.RowKit Go.Proofs.YtddbkcfdfgehkaaDoorW.PrintWords Go.Proofs.YtddbkcfdfgehkaaDoorW.PrintLast Go.Proofs.YtddbkcfdfgehkaaDoorW.PrintMore
attribute [local go_sem] max2_int min2_int max_two min_two max_three min_three max_four min_four   -- for this text's walks alone
set_option linter.unusedVariables false
set_option linter.unusedSimpArgs false
attribute [local go_sem] tok_f0 tok_f1 tok_f2 tok_f3 tok_f4
def pendulumlaw06_ParseBlanks.f (l : List Int) : Option Bool := some true
def pendulumlaw06_ParseBlanks.Pure : Prop := True
def blkHead : List Int := [35, 32, 97, 32, 114, 101, 109, 97, 114, 107, 10, 10]
theorem info_u8 : (Tryd.prog.info? 5).map (fun i => (i.zero, i.size, i.bytes)) = some (some (.int .u8 0), 1, 1) := by kernel_rfl
theorem blk_cellN {w : World} {g : Nat} {t : TypeId} {cs : Array Value} {fr : Nat × Nat} (h : w.heap[g]? = some (.cells cs t fr)) (j : Nat) : w.cell? ⟨g, j, none⟩ = cs[j]? := cell_of_row w g j cs t fr h
theorem blow_ok : ∀ (l : List Int), okBytes l = true → okBytes (blkHead ++ blow l) = true := by
  intro l h
  unfold okBytes at h ⊢
  rw [List.all_append, Bool.and_eq_true]
  refine ⟨by decide, ?_⟩
  rw [List.all_eq_true] at h ⊢
  intro x hx
  unfold blow at hx
  rw [List.mem_flatMap] at hx
  obtain ⟨c, hc, hx⟩ := hx
  unfold blw at hx
  split at hx
  · simp at hx; rcases hx with rfl | rfl <;> decide
  · split at hx
    · simp at hx
      repeat (rcases hx with rfl | hx; · decide)
    · simp at hx; subst hx; exact h _ hc
theorem blw_len (c : Int) : (blw c).length ≤ 15 := by unfold blw; split <;> (try split) <;> simp
theorem blow_len : ∀ l : List Int, (blow l).length ≤ 15 * l.length
  | [] => by simp [blow]
  | c :: l => by
    have h1 := blw_len c
    have h2 := blow_len l
    rw [blow_cons, List.length_append, List.length_cons]; omega
theorem blow_take (l : List Int) (i : Nat) (h : i < l.length) (x : Int) (hx : rd l (i : Int) = x) : blow (l.take (i + 1)) = blow (l.take i) ++ blw x := by
  have e : l.take (i + 1) = l.take i ++ [x] := by
    rw [List.take_succ_eq_append_getElem h, ← hx]
    simp [rd, List.getD_eq_getElem?_getD, List.getElem?_eq_getElem h]
  rw [e, blow_app, blow_cons]
  simp [blow]
/-- The bytes so far: the literal, or a row of the call's own. -/
def OutS (W1 wr : World) (g : Nat) (i : Nat) (v : Value) (l : List Int) : Prop :=
  (i = 0 ∧ v = .slice (some ⟨g, 0, none⟩) 12 12 ∧ wr.heap[g]? = some (.cells #[.int .u8 35, .int .u8 32, .int .u8 97, .int .u8 32, .int .u8 114, .int .u8 101, .int .u8 109, .int .u8 97, .int .u8 114, .int .u8 107, .int .u8 10, .int .u8 10] 5 (12, 13))) ∨ (1 ≤ i ∧ Kd.R (Kd.int .u8) 5 wr W1.heap.size (fun _ => True) v (blkHead ++ blow (l.take i)))
set_option maxHeartbeats 4000000 in
set_option maxRecDepth 100000 in
theorem blanks_far (A : Option Addr) (c : Nat) (l : List Int) (w : World) (h : 3000 < l.length) :
    Calls Tryd.prog 5 #[.slice A l.length c] w fun e w' => e = .returned (.bool true) ∧ Below w.heap.size w w' := by
  have HB := Aside0.mk (Below.refl w.heap.size w)
  have d1 : decide ((3000 : Int) < (l.length : Int)) = true := by simp; omega
  clear h
  go_enter Tryd.func5, Tryd.ntmps5
  go_wp2_with fail
  refine (pendulumlaw06_awake.calls true _ rfl).mono ?_
  rintro e wA ⟨rfl, hb⟩
  have HB1 := Aside0.mk (below_step HB.out hb)
  clear HB hb
  go_wp2_with fail
  refine (pendulumlaw06_awake.calls true _ rfl).mono ?_
  rintro e wB ⟨rfl, hb⟩
  have HB2 := Aside0.mk (below_step HB1.out hb)
  clear HB1 hb
  go_wp2_with fail
  go_ret
  exact ⟨rfl, HB2.out⟩
set_option maxHeartbeats 8000000 in
set_option maxRecDepth 100000 in
theorem blanks_near (A : Option Addr) (c : Nat) (l : List Int) (w : World) (hC : Kd.C (Kd.int .u8) w A l.length l) (hc : l.length ≤ c) (hok : okBytes l = true) (hl : l.length ≤ 3000) :
    Calls Tryd.prog 5 #[.slice A l.length c] w fun e w' => e = .returned (.bool true) ∧ Below w.heap.size w w' := by
  have HC := Aside0.mk hC
  have HOK := Aside0.mk hok
  have HB : Aside0 (Below w.heap.size w w) := ⟨Below.refl _ _⟩
  have d1 : decide ((3000 : Int) < (l.length : Int)) = false := by simp; omega
  obtain ⟨F, hF⟩ : ∃ F, parseF l = F := ⟨_, rfl⟩
  have HF : Aside0 (parse_Set.f l = some F) := ⟨by unfold parse_Set.f; rw [if_pos ⟨hok, by omega⟩, hF]⟩
  obtain ⟨f2, f3, hG, hlt⟩ := blow_parse l
  rw [hF] at hG hlt
  have HG : Aside0 (parse_Set.f (blkHead ++ blow l) = some (F.1, F.2.1, F.2.2.1, f2, f3)) := ⟨by
    unfold parse_Set.f
    have := blow_len l
    rw [if_pos ⟨blow_ok l hok, by rw [List.length_append]; show 12 + _ ≤ _; omega⟩]
    exact congrArg some hG⟩
  have HLT := Aside0.mk hlt
  have HTL : Aside0 (F.2.1.length ≤ 16) := ⟨by
    rw [← hF]
    by_cases he : (parseF l).2.2.1 = 0
    · exact ((rightS_iff _ _).1 (parse_right l he)).n1
    · rw [(parse_place l he).1]; simp⟩
  clear hC hok hF hG hlt
  go_enter Tryd.func5, Tryd.ntmps5
  go_wp2_with fail
  refine (pendulumlaw06_awake.calls true _ rfl).mono ?_
  rintro e wA ⟨rfl, hb⟩
  have HB1 := Aside0.mk (below_step HB.out hb)
  clear HB hb
  go_wp2_with fail
  refine (parse_Set.calls A c l F.1 F.2.1 F.2.2.1 F.2.2.2.1 F.2.2.2.2 _ (Kd.C_below HC.out HB1.out) hc HF.out).mono ?_
  rintro e wB ⟨v0, rfl, hR, hb⟩
  obtain ⟨As, cs, rfl, hcs, hCs⟩ := Kd.R_reads hR
  have HS := Aside0.mk hCs
  have HB2 := Aside0.mk (below_step HB1.out hb)
  clear HB1 hb hR hCs
  have kc := fun (o1 o2 : Obj) => conv_litM ((wB.alloc o1).alloc o2) (wB.heap.size + 1 + 1) (by simp)
  go_wp2_with fail
  obtain ⟨W1, hW1⟩ : ∃ W1, W1 = ((wB.alloc (.cells #[.int .i64 F.1, .slice As F.2.1.length cs] 26 (0, 0))).alloc (.cells #[.int .i64 F.2.2.1, .int .i64 F.2.2.2.1, .int .i64 F.2.2.2.2] 29 (0, 0))).alloc (.cells #[.int .u8 35, .int .u8 32, .int .u8 97, .int .u8 32, .int .u8 114, .int .u8 101, .int .u8 109, .int .u8 97, .int .u8 114, .int .u8 107, .int .u8 10, .int .u8 10] 5 (12, 13)) := ⟨_, rfl⟩
  have HG0 : Aside0 (W1.heap[wB.heap.size]? = some (.cells #[.int .i64 F.1, .slice As F.2.1.length cs] 26 (0, 0))) := ⟨by rw [hW1]; exact blk_alloc (blk_alloc (blk_new wB _) _) _⟩
  have HG1 : Aside0 (W1.heap[wB.heap.size + 1]? = some (.cells #[.int .i64 F.2.2.1, .int .i64 F.2.2.2.1, .int .i64 F.2.2.2.2] 29 (0, 0))) := ⟨by
    rw [hW1]
    refine blk_alloc ?_ _
    have h := blk_new (wB.alloc (.cells #[.int .i64 F.1, .slice As F.2.1.length cs] 26 (0, 0))) (.cells #[.int .i64 F.2.2.1, .int .i64 F.2.2.2.1, .int .i64 F.2.2.2.2] 29 (0, 0))
    simpa using h⟩
  have HG2 : Aside0 (W1.heap[wB.heap.size + 1 + 1]? = some (.cells #[.int .u8 35, .int .u8 32, .int .u8 97, .int .u8 32, .int .u8 114, .int .u8 101, .int .u8 109, .int .u8 97, .int .u8 114, .int .u8 107, .int .u8 10, .int .u8 10] 5 (12, 13))) := ⟨by
    rw [hW1]
    have h := blk_new ((wB.alloc (.cells #[.int .i64 F.1, .slice As F.2.1.length cs] 26 (0, 0))).alloc (.cells #[.int .i64 F.2.2.1, .int .i64 F.2.2.2.1, .int .i64 F.2.2.2.2] 29 (0, 0))) (.cells #[.int .u8 35, .int .u8 32, .int .u8 97, .int .u8 32, .int .u8 114, .int .u8 101, .int .u8 109, .int .u8 97, .int .u8 114, .int .u8 107, .int .u8 10, .int .u8 10] 5 (12, 13))
    simpa using h⟩
  have HBW : Aside0 (Below w.heap.size w W1) := ⟨by rw [hW1]; exact below_alloc (below_alloc (below_alloc HB2.out _) _) _⟩
  have HSW : Aside0 (Kd.C k40 W1 As F.2.1.length F.2.1) := ⟨Kd.C_below HS.out (by rw [hW1]; exact below_alloc (below_alloc (below_alloc (Below.refl _ _) _) _) _)⟩
  rw [← hW1]
  clear hW1 kc HB2 HS
  obtain ⟨gb, hgb⟩ : ∃ gb, wB.heap.size = gb := ⟨_, rfl⟩
  rw [hgb] at HG0 HG1 HG2 ⊢
  clear hgb
  go_loopg [5, 6] l.length (fun kk v5 v6 wr => ∃ i : Nat, v6 = .int .i64 i ∧ i + kk = l.length ∧ Aside0 (OutS W1 wr (gb + 1 + 1) i v5 l) ∧ Aside0 (Below W1.heap.size W1 wr))
  case atStart => exact ⟨0, rfl, by omega, ⟨.inl ⟨rfl, rfl, HG2.out⟩⟩, ⟨Below.refl _ _⟩⟩
  case round =>
    obtain ⟨i, rfl, hik, HO, HB⟩ := hrel
    by_cases hlt : i < l.length
    · have hd : decide ((i : Int) < (l.length : Int)) = true := by simp; omega
      obtain ⟨ad, e2, x0⟩ := Kd.at_int (Kd.C_below HC.out (below_step HBW.out HB.out)) (i : Int) (by omega) (by omega)
      cases e2
      obtain ⟨x, hx⟩ : ∃ x, rd l (i : Int) = x := ⟨_, rfl⟩
      have HX := Aside0.mk (blow_take l i hlt x hx)
      rw [hx] at x0
      simp only [Int.toNat_natCast] at x0
      have p0 : (0 : Int) ≤ i := by omega
      have p1 : (i : Int) < (l.length : Int) := by omega
      clear hx
      have hbl : Aside0 ((blow (l.take i)).length ≤ 15 * 3000) := ⟨by have h1 := blow_len (l.take i); rw [List.length_take] at h1; omega⟩
      rcases HO.out with ⟨hi0, hv, hbk⟩ | ⟨hi1, hR⟩
      · subst hv
        have HI := Aside0.mk hi0
        clear hi0
        have HBK := Aside0.mk hbk
        clear hbk HO
        by_cases hx0 : x = 32
        · subst hx0
          have b1 : ((32 : Int) == 32) = true := rfl
          have hbw : blw 32 = [9, 32] := rfl
          have KH : Aside0 (∀ b, some (⟨gb + 1 + 1, 0, none⟩ : Addr) = some b → ∀ j u, ([.int .u8 35, .int .u8 32, .int .u8 97, .int .u8 32, .int .u8 114, .int .u8 101, .int .u8 109, .int .u8 97, .int .u8 114, .int .u8 107, .int .u8 10, .int .u8 10] : List Value)[j]? = some u → (wr.alloc (.cells #[.int .u8 9, .int .u8 32] 5 (0, 0))).cell? (b.add j) = some u) := ⟨fun b hb j u hu => by
            cases hb
            have e : (⟨gb + 1 + 1, 0, none⟩ : Addr).add j = ⟨gb + 1 + 1, j, none⟩ := by unfold Addr.add; split <;> simp_all
            rw [e]
            have h2 : (wr.alloc (.cells #[.int .u8 9, .int .u8 32] 5 (0, 0))).cell? ⟨gb + 1 + 1, j, none⟩ = (#[.int .u8 35, .int .u8 32, .int .u8 97, .int .u8 32, .int .u8 114, .int .u8 101, .int .u8 109, .int .u8 97, .int .u8 114, .int .u8 107, .int .u8 10, .int .u8 10] : Array Value)[j]? := blk_cellN (blk_alloc HBK.out _) j
            rw [h2, ← hu]; simp⟩
          have KN : Aside0 (∀ j u, ([.int .u8 9, .int .u8 32] : List Value)[j]? = some u → (wr.alloc (.cells #[.int .u8 9, .int .u8 32] 5 (0, 0))).cell? ((⟨wr.heap.size, 0, none⟩ : Addr).add j) = some u) := ⟨fun j u hu => by
            have e : (⟨wr.heap.size, 0, none⟩ : Addr).add j = ⟨wr.heap.size, j, none⟩ := by unfold Addr.add; split <;> simp_all
            rw [e]
            have h2 : (wr.alloc (.cells #[.int .u8 9, .int .u8 32] 5 (0, 0))).cell? ⟨wr.heap.size, j, none⟩ = (#[.int .u8 9, .int .u8 32] : Array Value)[j]? := blk_cellN (blk_new wr _) j
            rw [h2, ← hu]; simp⟩
          go_wp2_with (first | ((with_reducible refine gate_builtin (b := .append) (xs := #[.tmp 35, .tmp 36]) rfl ?_); at_builtin; obtain ⟨i0, hi0, hz0, hz1, hz2⟩ := info_parts info_u8; go_must (refine wpList_append_grows _ rfl (.tmp 35) (.tmp 36) 22 rfl 5 i0 (.int .u8 0) 1 1 Tryd.underlying22 hi0 hz0 hz1 hz2 rfl (by decide) (some ⟨gb + 1 + 1, 0, none⟩) 12 12 [.int .u8 35, .int .u8 32, .int .u8 97, .int .u8 32, .int .u8 114, .int .u8 101, .int .u8 109, .int .u8 97, .int .u8 114, .int .u8 107, .int .u8 10, .int .u8 10] rfl (fun h => by cases h) rfl ?aH _ 2 2 [.int .u8 9, .int .u8 32] rfl rfl ?aC ?aO (by decide) (by decide) (by decide) ?_); (case aH => exact KH.out); (case aC => exact KN.out); (case aO => intro u hu; simp at hu; (try (rcases hu with rfl | rfl)) <;> (try subst hu) <;> rfl); intro v9 w9 hown hgr; have HO9 := Aside0.mk hown; have HG9 := Aside0.mk hgr; clear hown hgr))
          have HR9 : Aside0 (Kd.R (Kd.int .u8) 5 w9 W1.heap.size (fun _ => True) v9 (blkHead ++ blow (l.take (i + 1)))) := ⟨by
            refine Kd.R_lower (Kd.R_of_own (base := (wr.alloc (.cells #[.int .u8 9, .int .u8 32] 5 (0, 0))).heap.size) ?_ (fun _ _ => trivial)) (by have := HB.out.size; simp; omega)
            have h := HO9.out
            have hx2 := HX.out
            rw [hbw] at hx2
            have e3 : blkHead ++ blow (l.take (i + 1)) = blkHead ++ [9, 32] := by rw [hx2, HI.out]; simp [blow]
            rw [e3]
            simpa [encs, blkHead] using h⟩
          have HB9 : Aside0 (Below W1.heap.size W1 w9) := ⟨pw_below_grown (below_alloc HB.out _) none (by have := HB.out.size; simp; omega) HG9.out (fun k hk => by cases hk)⟩
          go_roundg (l.length - (i + 1))
          case measure => omega
          case rel => exact ⟨i + 1, by first | rfl | simp, by omega, ⟨.inr ⟨by omega, HR9.out⟩⟩, HB9⟩
        · skip
          by_cases hx1 : x = 10
          · subst hx1
            have b1 : ((10 : Int) == 32) = false := rfl
            have b2 : ((10 : Int) == 10) = true := rfl
            have hbw : blw 10 = [32, 35, 32, 97, 110, 100, 32, 115, 111, 32, 111, 110, 10, 32, 10] := rfl
            have kc := conv_litM wr wr.heap.size rfl
            have KH : Aside0 (∀ b, some (⟨gb + 1 + 1, 0, none⟩ : Addr) = some b → ∀ j u, ([.int .u8 35, .int .u8 32, .int .u8 97, .int .u8 32, .int .u8 114, .int .u8 101, .int .u8 109, .int .u8 97, .int .u8 114, .int .u8 107, .int .u8 10, .int .u8 10] : List Value)[j]? = some u → (wr.alloc (.cells #[.int .u8 32, .int .u8 35, .int .u8 32, .int .u8 97, .int .u8 110, .int .u8 100, .int .u8 32, .int .u8 115, .int .u8 111, .int .u8 32, .int .u8 111, .int .u8 110, .int .u8 10, .int .u8 32, .int .u8 10] 5 (15, 16))).cell? (b.add j) = some u) := ⟨fun b hb j u hu => by
              cases hb
              have e : (⟨gb + 1 + 1, 0, none⟩ : Addr).add j = ⟨gb + 1 + 1, j, none⟩ := by unfold Addr.add; split <;> simp_all
              rw [e]
              have h2 : (wr.alloc (.cells #[.int .u8 32, .int .u8 35, .int .u8 32, .int .u8 97, .int .u8 110, .int .u8 100, .int .u8 32, .int .u8 115, .int .u8 111, .int .u8 32, .int .u8 111, .int .u8 110, .int .u8 10, .int .u8 32, .int .u8 10] 5 (15, 16))).cell? ⟨gb + 1 + 1, j, none⟩ = (#[.int .u8 35, .int .u8 32, .int .u8 97, .int .u8 32, .int .u8 114, .int .u8 101, .int .u8 109, .int .u8 97, .int .u8 114, .int .u8 107, .int .u8 10, .int .u8 10] : Array Value)[j]? := blk_cellN (blk_alloc HBK.out _) j
              rw [h2, ← hu]; simp⟩
            have KN : Aside0 (∀ j u, ([.int .u8 32, .int .u8 35, .int .u8 32, .int .u8 97, .int .u8 110, .int .u8 100, .int .u8 32, .int .u8 115, .int .u8 111, .int .u8 32, .int .u8 111, .int .u8 110, .int .u8 10, .int .u8 32, .int .u8 10] : List Value)[j]? = some u → (wr.alloc (.cells #[.int .u8 32, .int .u8 35, .int .u8 32, .int .u8 97, .int .u8 110, .int .u8 100, .int .u8 32, .int .u8 115, .int .u8 111, .int .u8 32, .int .u8 111, .int .u8 110, .int .u8 10, .int .u8 32, .int .u8 10] 5 (15, 16))).cell? ((⟨wr.heap.size, 0, none⟩ : Addr).add j) = some u) := ⟨fun j u hu => by
              have e : (⟨wr.heap.size, 0, none⟩ : Addr).add j = ⟨wr.heap.size, j, none⟩ := by unfold Addr.add; split <;> simp_all
              rw [e]
              have h2 : (wr.alloc (.cells #[.int .u8 32, .int .u8 35, .int .u8 32, .int .u8 97, .int .u8 110, .int .u8 100, .int .u8 32, .int .u8 115, .int .u8 111, .int .u8 32, .int .u8 111, .int .u8 110, .int .u8 10, .int .u8 32, .int .u8 10] 5 (15, 16))).cell? ⟨wr.heap.size, j, none⟩ = (#[.int .u8 32, .int .u8 35, .int .u8 32, .int .u8 97, .int .u8 110, .int .u8 100, .int .u8 32, .int .u8 115, .int .u8 111, .int .u8 32, .int .u8 111, .int .u8 110, .int .u8 10, .int .u8 32, .int .u8 10] : Array Value)[j]? := blk_cellN (blk_new wr _) j
              rw [h2, ← hu]; simp⟩
            go_wp2_with (first | ((with_reducible refine gate_builtin (b := .append) (xs := #[.tmp 43, .tmp 45]) rfl ?_); at_builtin; obtain ⟨i0, hi0, hz0, hz1, hz2⟩ := info_parts info_u8; go_must (refine wpList_append_grows _ rfl (.tmp 43) (.tmp 45) 22 rfl 5 i0 (.int .u8 0) 1 1 Tryd.underlying22 hi0 hz0 hz1 hz2 rfl (by decide) (some ⟨gb + 1 + 1, 0, none⟩) 12 12 [.int .u8 35, .int .u8 32, .int .u8 97, .int .u8 32, .int .u8 114, .int .u8 101, .int .u8 109, .int .u8 97, .int .u8 114, .int .u8 107, .int .u8 10, .int .u8 10] rfl (fun h => by cases h) rfl ?aH _ 15 15 [.int .u8 32, .int .u8 35, .int .u8 32, .int .u8 97, .int .u8 110, .int .u8 100, .int .u8 32, .int .u8 115, .int .u8 111, .int .u8 32, .int .u8 111, .int .u8 110, .int .u8 10, .int .u8 32, .int .u8 10] rfl rfl ?aC ?aO (by decide) (by decide) (by decide) ?_); (case aH => exact KH.out); (case aC => exact KN.out); (case aO => intro u hu; simp at hu; (try (rcases hu with rfl | rfl | rfl | rfl | rfl | rfl | rfl | rfl | rfl | rfl | rfl | rfl | rfl | rfl | rfl)) <;> (try subst hu) <;> rfl); intro v9 w9 hown hgr; have HO9 := Aside0.mk hown; have HG9 := Aside0.mk hgr; clear hown hgr))
            have HR9 : Aside0 (Kd.R (Kd.int .u8) 5 w9 W1.heap.size (fun _ => True) v9 (blkHead ++ blow (l.take (i + 1)))) := ⟨by
              refine Kd.R_lower (Kd.R_of_own (base := (wr.alloc (.cells #[.int .u8 32, .int .u8 35, .int .u8 32, .int .u8 97, .int .u8 110, .int .u8 100, .int .u8 32, .int .u8 115, .int .u8 111, .int .u8 32, .int .u8 111, .int .u8 110, .int .u8 10, .int .u8 32, .int .u8 10] 5 (15, 16))).heap.size) ?_ (fun _ _ => trivial)) (by have := HB.out.size; simp; omega)
              have h := HO9.out
              have hx2 := HX.out
              rw [hbw] at hx2
              have e3 : blkHead ++ blow (l.take (i + 1)) = blkHead ++ [32, 35, 32, 97, 110, 100, 32, 115, 111, 32, 111, 110, 10, 32, 10] := by rw [hx2, HI.out]; simp [blow]
              rw [e3]
              simpa [encs, blkHead] using h⟩
            have HB9 : Aside0 (Below W1.heap.size W1 w9) := ⟨pw_below_grown (below_alloc HB.out _) none (by have := HB.out.size; simp; omega) HG9.out (fun k hk => by cases hk)⟩
            go_roundg (l.length - (i + 1))
            case measure => omega
            case rel => exact ⟨i + 1, by first | rfl | simp, by omega, ⟨.inr ⟨by omega, HR9.out⟩⟩, HB9⟩
          · have b1 : (x == 32) = false := beq_eq_false_iff_ne.2 hx0
            have b2 : (x == 10) = false := beq_eq_false_iff_ne.2 hx1
            have hbw : blw x = [x] := by unfold blw; rw [if_neg hx0, if_neg hx1]
            have KH : Aside0 (∀ b, some (⟨gb + 1 + 1, 0, none⟩ : Addr) = some b → ∀ j u, ([.int .u8 35, .int .u8 32, .int .u8 97, .int .u8 32, .int .u8 114, .int .u8 101, .int .u8 109, .int .u8 97, .int .u8 114, .int .u8 107, .int .u8 10, .int .u8 10] : List Value)[j]? = some u → (wr.alloc (.cells #[.int .u8 x] 5 (0, 0))).cell? (b.add j) = some u) := ⟨fun b hb j u hu => by
              cases hb
              have e : (⟨gb + 1 + 1, 0, none⟩ : Addr).add j = ⟨gb + 1 + 1, j, none⟩ := by unfold Addr.add; split <;> simp_all
              rw [e]
              have h2 : (wr.alloc (.cells #[.int .u8 x] 5 (0, 0))).cell? ⟨gb + 1 + 1, j, none⟩ = (#[.int .u8 35, .int .u8 32, .int .u8 97, .int .u8 32, .int .u8 114, .int .u8 101, .int .u8 109, .int .u8 97, .int .u8 114, .int .u8 107, .int .u8 10, .int .u8 10] : Array Value)[j]? := blk_cellN (blk_alloc HBK.out _) j
              rw [h2, ← hu]; simp⟩
            have KN : Aside0 (∀ j u, ([.int .u8 x] : List Value)[j]? = some u → (wr.alloc (.cells #[.int .u8 x] 5 (0, 0))).cell? ((⟨wr.heap.size, 0, none⟩ : Addr).add j) = some u) := ⟨fun j u hu => by
              have e : (⟨wr.heap.size, 0, none⟩ : Addr).add j = ⟨wr.heap.size, j, none⟩ := by unfold Addr.add; split <;> simp_all
              rw [e]
              have h2 : (wr.alloc (.cells #[.int .u8 x] 5 (0, 0))).cell? ⟨wr.heap.size, j, none⟩ = (#[.int .u8 x] : Array Value)[j]? := blk_cellN (blk_new wr _) j
              rw [h2, ← hu]; simp⟩
            go_wp2_with (first | ((with_reducible refine gate_builtin (b := .append) (xs := #[.tmp 47, .tmp 52]) rfl ?_); at_builtin; obtain ⟨i0, hi0, hz0, hz1, hz2⟩ := info_parts info_u8; go_must (refine wpList_append_grows _ rfl (.tmp 47) (.tmp 52) 22 rfl 5 i0 (.int .u8 0) 1 1 Tryd.underlying22 hi0 hz0 hz1 hz2 rfl (by decide) (some ⟨gb + 1 + 1, 0, none⟩) 12 12 [.int .u8 35, .int .u8 32, .int .u8 97, .int .u8 32, .int .u8 114, .int .u8 101, .int .u8 109, .int .u8 97, .int .u8 114, .int .u8 107, .int .u8 10, .int .u8 10] rfl (fun h => by cases h) rfl ?aH _ 1 1 [.int .u8 x] rfl rfl ?aC ?aO (by decide) (by decide) (by decide) ?_); (case aH => exact KH.out); (case aC => exact KN.out); (case aO => intro u hu; simp at hu; (try (rcases hu with rfl)) <;> (try subst hu) <;> rfl); intro v9 w9 hown hgr; have HO9 := Aside0.mk hown; have HG9 := Aside0.mk hgr; clear hown hgr))
            have HR9 : Aside0 (Kd.R (Kd.int .u8) 5 w9 W1.heap.size (fun _ => True) v9 (blkHead ++ blow (l.take (i + 1)))) := ⟨by
              refine Kd.R_lower (Kd.R_of_own (base := (wr.alloc (.cells #[.int .u8 x] 5 (0, 0))).heap.size) ?_ (fun _ _ => trivial)) (by have := HB.out.size; simp; omega)
              have h := HO9.out
              have hx2 := HX.out
              rw [hbw] at hx2
              have e3 : blkHead ++ blow (l.take (i + 1)) = blkHead ++ [x] := by rw [hx2, HI.out]; simp [blow]
              rw [e3]
              simpa [encs, blkHead] using h⟩
            have HB9 : Aside0 (Below W1.heap.size W1 w9) := ⟨pw_below_grown (below_alloc HB.out _) none (by have := HB.out.size; simp; omega) HG9.out (fun k hk => by cases hk)⟩
            go_roundg (l.length - (i + 1))
            case measure => omega
            case rel => exact ⟨i + 1, by first | rfl | simp, by omega, ⟨.inr ⟨by omega, HR9.out⟩⟩, HB9⟩
      · have HRR := Aside0.mk hR
        clear hR HO
        by_cases hx0 : x = 32
        · subst hx0
          have b1 : ((32 : Int) == 32) = true := rfl
          have hbw : blw 32 = [9, 32] := rfl
          have KN : Aside0 (Kd.C (Kd.int .u8) (wr.alloc (.cells #[.int .u8 9, .int .u8 32] 5 (0, 0))) (some ⟨wr.heap.size, 0, none⟩) 2 [9, 32]) := ⟨C_lit_M wr wr.heap.size rfl [9, 32] (by decide) _ _ (by simp)⟩
          have HLL : Aside0 ((blkHead ++ blow (l.take i)).length ≤ 50000) := ⟨by rw [List.length_append]; have := hbl.out; show 12 + _ ≤ _; omega⟩
          go_wp2_with (first | ((with_reducible refine gate_builtin (b := .append) (xs := #[.tmp 35, .tmp 36]) rfl ?_); at_builtin; go_must (refine Kd.R_append_row (Value.int .u8) (0 : Int) (h1 := fun _ => rfl) (w0 := W1) W1.heap.size rfl (.tmp 35) (.tmp 36) 22 5 (.int .u8 0) 1 rfl Tryd.underlying22 info_u8 rfl (by decide) u5 (blkHead ++ blow (l.take i)) [9, 32] (some ⟨wr.heap.size, 0, none⟩) 2 2 (fun _ => True) rfl rfl (fun _ _ => trivial) (Kd.R_alloc HRR.out _) KN.out (below_alloc HB.out _) (by have := HB.out.size; simp; omega) (by have := HLL.out; omega) ?_); intro v9 w9 ho hb hg hat; have HO9 := Aside0.mk ho; have HB9 := Aside0.mk hb; clear ho hb hg hat))
          have HR9 : Aside0 (Kd.R (Kd.int .u8) 5 w9 W1.heap.size (fun _ => True) v9 (blkHead ++ blow (l.take (i + 1)))) := ⟨by rw [HX.out, hbw, ← List.append_assoc]; exact HO9.out⟩
          go_roundg (l.length - (i + 1))
          case measure => omega
          case rel => exact ⟨i + 1, by first | rfl | simp, by omega, ⟨.inr ⟨by omega, HR9.out⟩⟩, HB9⟩
        · skip
          by_cases hx1 : x = 10
          · subst hx1
            have b1 : ((10 : Int) == 32) = false := rfl
            have b2 : ((10 : Int) == 10) = true := rfl
            have hbw : blw 10 = [32, 35, 32, 97, 110, 100, 32, 115, 111, 32, 111, 110, 10, 32, 10] := rfl
            have kc := conv_litM wr wr.heap.size rfl
            have KN : Aside0 (Kd.C (Kd.int .u8) (wr.alloc (.cells #[.int .u8 32, .int .u8 35, .int .u8 32, .int .u8 97, .int .u8 110, .int .u8 100, .int .u8 32, .int .u8 115, .int .u8 111, .int .u8 32, .int .u8 111, .int .u8 110, .int .u8 10, .int .u8 32, .int .u8 10] 5 (15, 16))) (some ⟨wr.heap.size, 0, none⟩) 15 [32, 35, 32, 97, 110, 100, 32, 115, 111, 32, 111, 110, 10, 32, 10]) := ⟨C_lit_M wr wr.heap.size rfl [32, 35, 32, 97, 110, 100, 32, 115, 111, 32, 111, 110, 10, 32, 10] (by decide) _ _ (by simp)⟩
            have HLL : Aside0 ((blkHead ++ blow (l.take i)).length ≤ 50000) := ⟨by rw [List.length_append]; have := hbl.out; show 12 + _ ≤ _; omega⟩
            go_wp2_with (first | ((with_reducible refine gate_builtin (b := .append) (xs := #[.tmp 43, .tmp 45]) rfl ?_); at_builtin; go_must (refine Kd.R_append_row (Value.int .u8) (0 : Int) (h1 := fun _ => rfl) (w0 := W1) W1.heap.size rfl (.tmp 43) (.tmp 45) 22 5 (.int .u8 0) 1 rfl Tryd.underlying22 info_u8 rfl (by decide) u5 (blkHead ++ blow (l.take i)) [32, 35, 32, 97, 110, 100, 32, 115, 111, 32, 111, 110, 10, 32, 10] (some ⟨wr.heap.size, 0, none⟩) 15 15 (fun _ => True) rfl rfl (fun _ _ => trivial) (Kd.R_alloc HRR.out _) KN.out (below_alloc HB.out _) (by have := HB.out.size; simp; omega) (by have := HLL.out; omega) ?_); intro v9 w9 ho hb hg hat; have HO9 := Aside0.mk ho; have HB9 := Aside0.mk hb; clear ho hb hg hat))
            have HR9 : Aside0 (Kd.R (Kd.int .u8) 5 w9 W1.heap.size (fun _ => True) v9 (blkHead ++ blow (l.take (i + 1)))) := ⟨by rw [HX.out, hbw, ← List.append_assoc]; exact HO9.out⟩
            go_roundg (l.length - (i + 1))
            case measure => omega
            case rel => exact ⟨i + 1, by first | rfl | simp, by omega, ⟨.inr ⟨by omega, HR9.out⟩⟩, HB9⟩
          · have b1 : (x == 32) = false := beq_eq_false_iff_ne.2 hx0
            have b2 : (x == 10) = false := beq_eq_false_iff_ne.2 hx1
            have hbw : blw x = [x] := by unfold blw; rw [if_neg hx0, if_neg hx1]
            have KN : Aside0 (Kd.C (Kd.int .u8) (wr.alloc (.cells #[.int .u8 x] 5 (0, 0))) (some ⟨wr.heap.size, 0, none⟩) 1 [x]) := ⟨C_lit_M wr wr.heap.size rfl [x] (by simp) _ _ (by simp)⟩
            have HLL : Aside0 ((blkHead ++ blow (l.take i)).length ≤ 50000) := ⟨by rw [List.length_append]; have := hbl.out; show 12 + _ ≤ _; omega⟩
            go_wp2_with (first | ((with_reducible refine gate_builtin (b := .append) (xs := #[.tmp 47, .tmp 52]) rfl ?_); at_builtin; go_must (refine Kd.R_append_row (Value.int .u8) (0 : Int) (h1 := fun _ => rfl) (w0 := W1) W1.heap.size rfl (.tmp 47) (.tmp 52) 22 5 (.int .u8 0) 1 rfl Tryd.underlying22 info_u8 rfl (by decide) u5 (blkHead ++ blow (l.take i)) [x] (some ⟨wr.heap.size, 0, none⟩) 1 1 (fun _ => True) rfl rfl (fun _ _ => trivial) (Kd.R_alloc HRR.out _) KN.out (below_alloc HB.out _) (by have := HB.out.size; simp; omega) (by have := HLL.out; omega) ?_); intro v9 w9 ho hb hg hat; have HO9 := Aside0.mk ho; have HB9 := Aside0.mk hb; clear ho hb hg hat))
            have HR9 : Aside0 (Kd.R (Kd.int .u8) 5 w9 W1.heap.size (fun _ => True) v9 (blkHead ++ blow (l.take (i + 1)))) := ⟨by rw [HX.out, hbw, ← List.append_assoc]; exact HO9.out⟩
            go_roundg (l.length - (i + 1))
            case measure => omega
            case rel => exact ⟨i + 1, by first | rfl | simp, by omega, ⟨.inr ⟨by omega, HR9.out⟩⟩, HB9⟩
    · have hd : decide ((i : Int) < (l.length : Int)) = false := by simp; omega
      obtain rfl : i = l.length := by omega
      have hfin : ∃ (A2 : Option Addr) (c2 : Nat), u5 = .slice A2 (blkHead ++ blow l).length c2 ∧ (blkHead ++ blow l).length ≤ c2 ∧ Kd.C (Kd.int .u8) wr A2 (blkHead ++ blow l).length (blkHead ++ blow l) := by
        rcases HO.out with ⟨hi0, hv, hbk⟩ | ⟨hi1, hR⟩
        · have hl0 : l = [] := List.eq_nil_of_length_eq_zero hi0
          subst hl0
          refine ⟨_, _, hv, Nat.le_refl _, ?_⟩
          refine Kd.C_of_reads (d := (0 : Int)) (h1 := fun _ => rfl) ⟨rfl, by decide, fun _ => ⟨_, rfl, fun j hj => ?_⟩⟩
          have e : (⟨gb + 1 + 1, 0, none⟩ : Addr).add j = ⟨gb + 1 + 1, j, none⟩ := by unfold Addr.add; split <;> simp_all
          rw [e]
          have h2 : wr.cell? ⟨gb + 1 + 1, j, none⟩ = (#[.int .u8 35, .int .u8 32, .int .u8 97, .int .u8 32, .int .u8 114, .int .u8 101, .int .u8 109, .int .u8 97, .int .u8 114, .int .u8 107, .int .u8 10, .int .u8 10] : Array Value)[j]? := blk_cellN hbk j
          rw [h2]
          have hj12 : j < 12 := hj
          match j, hj12 with
          | 0, _ => rfl
          | 1, _ => rfl
          | 2, _ => rfl
          | 3, _ => rfl
          | 4, _ => rfl
          | 5, _ => rfl
          | 6, _ => rfl
          | 7, _ => rfl
          | 8, _ => rfl
          | 9, _ => rfl
          | 10, _ => rfl
          | 11, _ => rfl
        · rw [List.take_of_length_le (Nat.le_refl _)] at hR
          obtain ⟨A2, c2, h1, h2, h3⟩ := Kd.R_reads hR
          exact ⟨A2, c2, h1, h2, h3⟩
      obtain ⟨A2, c2, hv5, hc2, hC2⟩ := hfin
      have HGZ := HG.out
      obtain ⟨z, hz⟩ : ∃ z, blkHead ++ blow l = z := ⟨_, rfl⟩
      rw [hz] at hv5 hc2 hC2 HGZ
      have HGz := Aside0.mk HGZ
      clear HGZ hz
      have HC2 := Aside0.mk hC2
      have HG0w := Aside0.mk (blk_below HG0.out HB.out)
      have HG1w := Aside0.mk (blk_below HG1.out HB.out)
      have HSw := Aside0.mk (Kd.C_below HSW.out HB.out)
      have HBw := Aside0.mk (below_step HBW.out HB.out)
      rw [hv5]
      clear hv5 hC2 HO HB hik hlt
      go_wp2_with fail
      refine (parse_Set.calls A2 c2 z F.1 F.2.1 F.2.2.1 f2 f3 _ HC2.out hc2 HGz.out).mono ?_
      rintro e wC ⟨v1, rfl, hR, hb⟩
      obtain ⟨Av, cv, rfl, hcv, hCv⟩ := Kd.R_reads hR
      obtain ⟨wD, hwD⟩ : ∃ wD, wD = (wC.alloc (.cells #[.int .i64 F.1, .slice Av F.2.1.length cv] 26 (0, 0))).alloc (.cells #[.int .i64 F.2.2.1, .int .i64 f2, .int .i64 f3] 29 (0, 0)) := ⟨_, rfl⟩
      have hbD : Below wr.heap.size wr wD := by rw [hwD]; exact below_alloc (below_alloc hb _) _
      have HH0 : Aside0 (wD.heap[wC.heap.size]? = some (.cells #[.int .i64 F.1, .slice Av F.2.1.length cv] 26 (0, 0))) := ⟨by rw [hwD]; exact blk_alloc (blk_new wC _) _⟩
      have HH1 : Aside0 (wD.heap[wC.heap.size + 1]? = some (.cells #[.int .i64 F.2.2.1, .int .i64 f2, .int .i64 f3] 29 (0, 0))) := ⟨by
        rw [hwD]
        have h := blk_new (wC.alloc (.cells #[.int .i64 F.1, .slice Av F.2.1.length cv] 26 (0, 0))) (.cells #[.int .i64 F.2.2.1, .int .i64 f2, .int .i64 f3] 29 (0, 0))
        simpa using h⟩
      have HVD : Aside0 (Kd.C k40 wD Av F.2.1.length F.2.1) := ⟨Kd.C_below hCv (by rw [hwD]; exact below_alloc (below_alloc (Below.refl _ _) _) _)⟩
      have HG0D := Aside0.mk (blk_below HG0w.out hbD)
      have HG1D := Aside0.mk (blk_below HG1w.out hbD)
      have HSD := Aside0.mk (Kd.C_below HSw.out hbD)
      have HBD := Aside0.mk (below_step HBw.out hbD)
      have HWD := Aside0.mk hwD
      have HCL : Aside0 (F.2.1.length ≤ cs ∧ F.2.1.length ≤ cv) := ⟨⟨hcs, hcv⟩⟩
      have g0 : wD.cell? ⟨gb, 0, none⟩ = some (.int .i64 F.1) := blk_cell HG0D.out 0
      have g1 : wD.cell? ⟨gb, 1, none⟩ = some (.slice As F.2.1.length cs) := blk_cell HG0D.out 1
      have k0 : wD.cell? ⟨gb + 1, 0, none⟩ = some (.int .i64 F.2.2.1) := blk_cell HG1D.out 0
      have k1 : wD.cell? ⟨gb + 1, 1, none⟩ = some (.int .i64 F.2.2.2.1) := blk_cell HG1D.out 1
      have h0 : wD.cell? ⟨wC.heap.size, 0, none⟩ = some (.int .i64 F.1) := blk_cell HH0.out 0
      have h1 : wD.cell? ⟨wC.heap.size, 1, none⟩ = some (.slice Av F.2.1.length cv) := blk_cell HH0.out 1
      have m0 : wD.cell? ⟨wC.heap.size + 1, 0, none⟩ = some (.int .i64 F.2.2.1) := blk_cell HH1.out 0
      have m1 : wD.cell? ⟨wC.heap.size + 1, 1, none⟩ = some (.int .i64 f2) := blk_cell HH1.out 1
      have y0 : ((wC.alloc (.cells #[.int .i64 F.1, .slice Av F.2.1.length cv] 26 (0, 0))).alloc (.cells #[.int .i64 F.2.2.1, .int .i64 f2, .int .i64 f3] 29 (0, 0))).cell? ⟨gb, 0, none⟩ = some (.int .i64 F.1) := by rw [← HWD.out]; exact g0
      have y1 : ((wC.alloc (.cells #[.int .i64 F.1, .slice Av F.2.1.length cv] 26 (0, 0))).alloc (.cells #[.int .i64 F.2.2.1, .int .i64 f2, .int .i64 f3] 29 (0, 0))).cell? ⟨gb, 1, none⟩ = some (.slice As F.2.1.length cs) := by rw [← HWD.out]; exact g1
      have y2 : ((wC.alloc (.cells #[.int .i64 F.1, .slice Av F.2.1.length cv] 26 (0, 0))).alloc (.cells #[.int .i64 F.2.2.1, .int .i64 f2, .int .i64 f3] 29 (0, 0))).cell? ⟨gb + 1, 0, none⟩ = some (.int .i64 F.2.2.1) := by rw [← HWD.out]; exact k0
      have y3 : ((wC.alloc (.cells #[.int .i64 F.1, .slice Av F.2.1.length cv] 26 (0, 0))).alloc (.cells #[.int .i64 F.2.2.1, .int .i64 f2, .int .i64 f3] 29 (0, 0))).cell? ⟨wC.heap.size, 0, none⟩ = some (.int .i64 F.1) := by rw [← HWD.out]; exact h0
      have y4 : ((wC.alloc (.cells #[.int .i64 F.1, .slice Av F.2.1.length cv] 26 (0, 0))).alloc (.cells #[.int .i64 F.2.2.1, .int .i64 f2, .int .i64 f3] 29 (0, 0))).cell? ⟨wC.heap.size, 1, none⟩ = some (.slice Av F.2.1.length cv) := by rw [← HWD.out]; exact h1
      have y5 : ((wC.alloc (.cells #[.int .i64 F.1, .slice Av F.2.1.length cv] 26 (0, 0))).alloc (.cells #[.int .i64 F.2.2.1, .int .i64 f2, .int .i64 f3] 29 (0, 0))).cell? ⟨wC.heap.size + 1, 0, none⟩ = some (.int .i64 F.2.2.1) := by rw [← HWD.out]; exact m0
      clear hR hb hCv hbD hwD HG0w HG1w HSw HBw HC2 hcs hcv
      go_wp2_with fail
      rw [← HWD.out]
      refine (pendulumref05_Same.calls 100 F.1 As cs F.2.1 F.1 Av cv F.2.1 true _ HSD.out HCL.out.1 HVD.out HCL.out.2 (by rw [same_eq _ _ _ _ (by have := HTL.out; omega) (by have := HTL.out; omega) 100 (by have := HTL.out; omega), sameB_self])).mono ?_
      rintro e wE ⟨rfl, hb⟩
      have HBE := Aside0.mk (below_step HBD.out hb)
      have k0 : wE.cell? ⟨gb + 1, 0, none⟩ = some (.int .i64 F.2.2.1) := blk_cell (blk_below HG1D.out hb) 0
      have k1 : wE.cell? ⟨gb + 1, 1, none⟩ = some (.int .i64 F.2.2.2.1) := blk_cell (blk_below HG1D.out hb) 1
      have m1 : wE.cell? ⟨wC.heap.size + 1, 1, none⟩ = some (.int .i64 f2) := blk_cell (blk_below HH1.out hb) 1
      clear hb g0 g1 h0 h1 m0 y0 y1 y2 y3 y4 y5
      by_cases he : F.2.2.1 = 0
      · have b0 : (F.2.2.1 == 0) = true := beq_iff_eq.2 he
        clear he
        go_wp2_with fail
        go_ret
        exact ⟨rfl, HBE.out⟩
      · have b0 : (F.2.2.1 == 0) = false := beq_eq_false_iff_ne.2 he
        have b1 : decide (F.2.2.2.1 < f2) = true := decide_eq_true (HLT.out he)
        clear he
        go_wp2_with fail
        go_ret
        exact ⟨rfl, HBE.out⟩
theorem pendulumlaw06_ParseBlanks.walk (P : pendulumlaw06_ParseBlanks.Pure) (a0 : Option Addr) (len0 cap0 : Nat) (z0 : List Int) (w : World) (w0 : (a0 = none ∧ len0 = 0 ∧ cap0 = 0 ∧ z0 = []) ∨ ∃ x, a0 = some x ∧ len0 ≤ cap0 ∧ cap0 ≤ maxLen ∧ z0.length = cap0 ∧ (∀ i, i < z0.length → w.cell? (x.add i) = some (.int .u8 (z0.getD i 0))) ∧ ∀ n ∈ z0, (Lit.int .u8 n).wf = true) (_ : len0 * 1 ≤ 140737488351232) :
    Calls Tryd.prog 5 #[.slice a0 len0 cap0] w fun e w' => e = .returned (.bool true) ∧ Below w.heap.size w w' := by
  obtain ⟨l0, rfl, hr0, hm0, hw0, hc0⟩ := ReadsInt.ofRowC w0
  by_cases h : 3000 < l0.length
  · exact blanks_far a0 cap0 l0 w h
  · exact blanks_near a0 cap0 l0 w (Kd.C_of_reads (d := (0 : Int)) (h1 := fun _ => rfl) hr0) hc0 (ok_of_wf hw0) (by omega)
end Go.Proofs.YtddbkcfdfgehkaaDoor.Q
