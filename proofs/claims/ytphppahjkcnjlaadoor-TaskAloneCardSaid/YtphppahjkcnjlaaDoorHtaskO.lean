-- Tasks' places by priority: walked by hand, over the kit's contract of slices.SortFunc.
-- HAND pendulum/task.Order rounds=0 making=1
-- NEEDS pendulum/task.in pendulum/index.Named
import Derived.Test.YtphppahjkcnjlaaDoorQ0
import Derived.Test.YtphppahjkcnjlaaDoorLtask
import Derived.Test.YtphppahjkcnjlaaDoorShelf
import Derived.Test.YtphppahjkcnjlaaDoorHtaskA
import Derived.IntWalk
import Derived.WalkSpells
namespace Go.Proofs.YtphppahjkcnjlaaDoor.Q
open Go.RowKit Go.Proofs.YtphppahjkcnjlaaDoorW.PrintWords Go.Proofs.YtphppahjkcnjlaaDoorW.PrintLast Go.Proofs.YtphppahjkcnjlaaDoorW.PrintMore
attribute [local go_sem] max2_int min2_int max_two min_two max_three min_three max_four min_four   -- for this text's walks alone
set_option linter.unusedVariables false
set_option linter.unusedSimpArgs false

open Go.Sort Go.Shelf
/-- Places by priority. -/
def ordN (ts : List TK) : List (Fin ts.length) := (List.finRange ts.length).mergeSort (fun x y => decide (ts[x].f10 ≤ ts[y].f10))
def ordF (ts : List TK) : List Int := (ordN ts).map (fun i => (i.val : Int))
def task_Order.f (_b : Int) (ts : List TK) : Option (List Int) := if (ts.map (fun t => t.f10)).Nodup ∧ ts.length ≤ 1000 then some (ordF ts) else none
def ordC (ts : List TK) (i j : Fin ts.length) : Int := Lib.compareInt ts[i].f10 ts[j].f10
def ordE {n : Nat} (i : Fin n) : Value := .int .i64 (i.val : Int)
theorem ordL (ts : List TK) (i j : Fin ts.length) : ltOf (ordC ts) i j = decide (ts[i].f10 < ts[j].f10) := by
  unfold ltOf ordC Lib.compareInt
  generalize ts[i].f10 = a
  generalize ts[j].f10 = b
  by_cases h1 : a < b
  · simp [h1]
  · by_cases h2 : b < a <;> simp [h1, h2]
theorem ordO (ts : List TK) : SWO (ltOf (ordC ts)) where
  irrefl x := by rw [ordL]; simp
  trans x y z h1 h2 := by rw [ordL] at *; simp at *; omega
  ntrans x y z h1 h2 := by rw [ordL] at *; simp at *; omega
theorem ordT (ts : List TK) (hn : (ts.map (fun t => t.f10)).Nodup) (x y : Fin ts.length) (h1 : ltOf (ordC ts) x y = false) (h2 : ltOf (ordC ts) y x = false) : x = y := by
  rw [ordL] at h1 h2
  simp at h1 h2
  have e : ts[x].f10 = ts[y].f10 := Int.le_antisymm h2 h1
  have hp := List.pairwise_iff_getElem.1 hn
  have key : ∀ a b : Fin ts.length, a.val < b.val → ts[a].f10 ≠ ts[b].f10 := fun a b hab => by
    have := hp a.val b.val (by simp) (by simp) hab
    simpa using this
  rcases Nat.lt_trichotomy x.val y.val with h | h | h
  · exact absurd e (key x y h)
  · exact Fin.ext h
  · exact absurd e.symm (key y x h)
theorem ordG (ts : List TK) : (fun x y : Fin ts.length => !ltOf (ordC ts) y x) = fun x y => decide (ts[x].f10 ≤ ts[y].f10) := by
  funext x y
  rw [ordL, ← decide_not, decide_eq_decide]
  omega
theorem info_i64 : (Tryd.prog.info? 3).map (fun i => (i.zero, i.size, i.bytes)) = some (some (.int .i64 0), 1, 8) := by kernel_rfl
set_option maxHeartbeats 1000000 in
set_option maxRecDepth 100000 in
theorem ord_cmp (b : Int) (A : Option Addr) (c : Nat) (ts : List TK) (gs : Nat) (W : World) (hk : W.heap[gs]? = some (.cells #[.int .i64 b, .slice A ts.length c] 24 (0, 0))) (hts : Kd.C k32 W A ts.length ts) (hlen : ts.length ≤ 1000000) (i j : Fin ts.length) :
    Calls Tryd.prog 24 #[.int .i64 (i.val : Int), .int .i64 (j.val : Int), .pointer (some ⟨gs, 0, none⟩)] W fun e w' => e = .returned (.int .i64 (ordC ts i j)) ∧ ∃ q, w' = W.drewN q := by
  have hcon := fun W' => AnyG.cmp_Compare_int Tryd.shCmp ts[i].f10 ts[j].f10 W'
  change ∀ W', Calls Tryd.prog 25 _ _ _ at hcon
  have hi := i.isLt
  have hj := j.isLt
  unfold ordC
  obtain ⟨ad, e, x0, x1, x2, x3, x4, x5, x6, x7, x8, x9, x10⟩ := at_T32 hts (i.val : Int) (by omega) (by omega)
  cases e
  obtain ⟨ad', e, y0, y1, y2, y3, y4, y5, y6, y7, y8, y9, y10⟩ := at_T32 hts (j.val : Int) (by omega) (by omega)
  cases e
  clear x0 x1 x2 x3 x4 x5 x6 x7 x8 x9 y0 y1 y2 y3 y4 y5 y6 y7 y8 y9
  simp only [Int.toNat_natCast] at x10 y10
  have gx : rd_T32 ts (i.val : Int) = ts[i] := by simp [rd_T32, List.getD_eq_getElem?_getD, List.getElem?_eq_getElem hi]
  have gy : rd_T32 ts (j.val : Int) = ts[j] := by simp [rd_T32, List.getD_eq_getElem?_getD, List.getElem?_eq_getElem hj]
  rw [gx] at x10
  rw [gy] at y10
  obtain ⟨p, hp⟩ : ∃ p, ts[i].f10 = p := ⟨_, rfl⟩
  obtain ⟨q, hq⟩ : ∃ q, ts[j].f10 = q := ⟨_, rfl⟩
  rw [hp] at x10
  rw [hq] at y10
  rw [hp, hq] at hcon ⊢
  obtain ⟨r, hr⟩ : ∃ r, Lib.compareInt p q = r := ⟨_, rfl⟩
  rw [hr] at hcon ⊢
  have s1 := blk_cell hk 1
  obtain ⟨n, hn⟩ : ∃ n, i.val = n := ⟨_, rfl⟩
  obtain ⟨m, hm⟩ : ∃ m, j.val = m := ⟨_, rfl⟩
  rw [hn] at x10 hi ⊢
  rw [hm] at y10 hj ⊢
  have p0 : (0 : Int) ≤ n := by omega
  have p1 : (n : Int) < (ts.length : Int) := by omega
  have q0 : (0 : Int) ≤ m := by omega
  have q1 : (m : Int) < (ts.length : Int) := by omega
  clear hp hq hr gx gy hn hm hk hts hlen
  go_enter Tryd.func24, Tryd.ntmps24
  go_wp2_with fail
  go_quiet ((go_at_call 25; exact Calls.quiet_of_same (hcon _)))
  go_wp2_with fail
  go_ret
  exact ⟨rfl, _, rfl⟩
/-- What the sort leaves of a row of the call's own. -/
theorem sorted_row {n : Nat} [Inhabited (Fin n)] {W w0 : World} {base g cap : Nat} {e : TypeId} {xs ys : List (Fin n)} (hl : ys.length = xs.length) (hg : base ≤ g) (hx : W.ownsRow base e 1 (.slice (some ⟨g, 0, none⟩) xs.length cap) xs.length (xs.map ordE)) (hB : Below base w0 W) (m : Nat) (os : Array Obj) :
    (sortWorld ordE W g 0 m ys.toArray os).ownsRow base e 1 (.slice (some ⟨g, 0, none⟩) xs.length cap) xs.length (ys.map ordE) ∧ Below base w0 (sortWorld ordE W g 0 m ys.toArray os) := by
  obtain ⟨h1, h2⟩ := hx
  rcases h2 with ⟨h2, -⟩ | ⟨g', cap', cur, h2, h3, h4, h5, h6, h7, h8⟩
  · cases h2
  · cases h2
    have hgl : g < W.heap.size := by
      rcases Nat.lt_or_ge g W.heap.size with h | h
      · exact h
      · rw [Array.getElem?_eq_none h] at h4; cases h4
    have hb : (sortWorld ordE W g 0 m ys.toArray os).heap[g]? = some (.cells (putCells ordE 0 ys.toArray cur) e (0, 0)) := by
      show ((W.heap.modify g (onCells (putCells ordE 0 ys.toArray))) ++ os)[g]? = _
      rw [Array.getElem?_append_left (by simpa using hgl), Array.getElem?_modify, if_pos rfl, h4]
      rfl
    refine ⟨⟨by simp [hl], .inr ⟨g, cap, _, rfl, h3, hb, h5, h6, by simp [putCells, h7], ?_⟩⟩, ⟨hB.os, hB.tape, hB.output, ?_, fun k hk => ?_⟩⟩
    · apply List.ext_getElem?
      intro j
      rw [List.getElem?_take]
      have hcs : cur.size = cap := by omega
      by_cases hj : j < xs.length
      · rw [if_pos (by omega)]
        have hjc : j < cur.size := by omega
        have hjy : j < ys.length := by omega
        simp only [putCells, Array.getElem?_toList, Array.getElem?_mapIdx, Array.getElem?_eq_getElem hjc, Option.map_some, List.getElem?_map, List.getElem?_eq_getElem hjy, List.size_toArray, Nat.sub_zero]
        rw [if_pos ⟨Nat.zero_le _, by omega⟩]
        congr 2
        simp [getElem!_pos, hjy]
      · rw [if_neg (by omega), List.getElem?_eq_none (by simp; omega)]
    · have h1 := hB.size
      have h2 : (sortWorld ordE W g 0 m ys.toArray os).heap.size = W.heap.size + os.size := by
        show ((W.heap.modify g (onCells (putCells ordE 0 ys.toArray))) ++ os).size = _
        simp
      omega
    · show ((W.heap.modify g (onCells (putCells ordE 0 ys.toArray))) ++ os)[k]? = _
      rw [Array.getElem?_append_left (by simp; omega), Array.getElem?_modify, if_neg (by omega)]
      exact hB.block k hk
theorem ordE_map {n : Nat} (l : List (Fin n)) : l.map ordE = (l.map (fun i => (i.val : Int))).map (Value.int .i64) := by
  rw [List.map_map]; rfl
theorem finR (n : Nat) : (List.finRange n).map (fun i => (i.val : Int)) = (List.range n).map (fun i : Nat => (i : Int)) := by
  apply List.ext_getElem
  · simp
  · intro i h1 h2
    simp
theorem ord_out {n : Nat} [Inhabited (Fin n)] {W w0 : World} {base g cap : Nat} {xs ys : List (Fin n)} (hl : ys.length = xs.length) (hR : Kd.R (Kd.int .i64) 3 W base (fun _ => True) (.slice (some ⟨g, 0, none⟩) xs.length cap) (xs.map (fun i => (i.val : Int)))) (hB : Below base w0 W) (m : Nat) (os : Array Obj) :
    Kd.R (Kd.int .i64) 3 (sortWorld ordE W g 0 m ys.toArray os) base (fun _ => True) (.slice (some ⟨g, 0, none⟩) xs.length cap) (ys.map (fun i => (i.val : Int))) ∧ Below base w0 (sortWorld ordE W g 0 m ys.toArray os) := by
  have ho := Kd.own_of_R hR
  have hx : W.ownsRow base 3 1 (.slice (some ⟨g, 0, none⟩) xs.length cap) xs.length (xs.map ordE) := by
    rw [ordE_map]
    have ho2 : W.ownsRow base 3 1 (.slice (some ⟨g, 0, none⟩) xs.length cap) (xs.map (fun i => (i.val : Int))).length ((xs.map (fun i => (i.val : Int))).map (Value.int .i64)) := ho
    rw [List.length_map] at ho2
    exact ho2
  have hg : base ≤ g := own_base hx g rfl
  have hs := sorted_row hl hg hx hB m os
  refine ⟨Kd.R_of_own ?_ (fun _ _ => trivial), hs.2⟩
  have := hs.1
  rw [ordE_map] at this
  have e : (ys.map (fun i => (i.val : Int))).length = xs.length := by simp [hl]
  rw [e]
  exact this
set_option maxHeartbeats 4000000 in
set_option maxRecDepth 100000 in
theorem task_Order.calls (a0_0 : Int) (A0_1 : Option Addr) (c0_1 : Nat) (l0_1 : List TK) (r : List Int) (w : World) (hr0_1 : Kd.C k32 w A0_1 l0_1.length l0_1) (hc0_1 : l0_1.length ≤ c0_1) (h : task_Order.f a0_0 l0_1 = some r) :
    Calls Tryd.prog 15 #[.agg #[.int .i64 a0_0, .slice A0_1 l0_1.length c0_1]] w fun e w' => ∃ v0_ : Value, e = .returned v0_ ∧ Kd.R (Kd.int .i64) 3 w' w.heap.size (fun _ => True) v0_ r ∧ Below w.heap.size w w' := by
  obtain ⟨ts, hts⟩ : ∃ ts, l0_1 = ts := ⟨_, rfl⟩
  subst hts
  unfold task_Order.f at h
  split at h
  case isFalse => exact absurd h (by simp)
  case isTrue hcond =>
  obtain ⟨hnd, hlen⟩ := hcond
  have HR := Aside0.mk (Option.some.inj h)
  have HND := Aside0.mk hnd
  have HC := Aside0.mk hr0_1
  clear h hnd hr0_1
  obtain ⟨W1, hW1⟩ : ∃ W1, W1 = w.alloc (.cells #[.int .i64 a0_0, .slice A0_1 l0_1.length c0_1] 24 (0, 0)) := ⟨_, rfl⟩
  have HW1 := Aside0.mk hW1
  have HB1 : Aside0 (Below w.heap.size w W1) := ⟨by rw [hW1]; exact below_alloc (Below.refl _ _) _⟩
  have HK1 : Aside0 (W1.heap[w.heap.size]? = some (.cells #[.int .i64 a0_0, .slice A0_1 l0_1.length c0_1] 24 (0, 0))) := ⟨by rw [hW1]; exact blk_new w _⟩
  have HZ1 : Aside0 (W1.heap.size = w.heap.size + 1) := ⟨by rw [hW1]; simp⟩
  have HC1 := Aside0.mk (Kd.C_below HC.out HB1.out)
  clear hW1
  go_enter Tryd.func15, Tryd.ntmps15
  go_wp2_with fail
  rw [← HW1.out]
  obtain ⟨gs, hgs⟩ : ∃ gs, w.heap.size = gs := ⟨_, rfl⟩
  have HGS := Aside0.mk hgs
  rw [hgs] at HK1 ⊢
  clear hgs
  go_loopg [3, 8] l0_1.length (fun kk v3 v8 wr => ∃ i : Nat, v8 = .int .i64 i ∧ i + kk = l0_1.length ∧ Aside0 (Kd.R (Kd.int .i64) 3 wr W1.heap.size (fun _ => True) v3 ((List.range i).map (fun i : Nat => (i : Int)))) ∧ Aside0 (Below W1.heap.size W1 wr))
  case atStart => exact ⟨0, rfl, by omega, ⟨Kd.R_nil _ _ _ _ _⟩, ⟨Below.refl _ _⟩⟩
  case round =>
    obtain ⟨i, rfl, hik, HO, HB⟩ := hrel
    by_cases hlt : i < l0_1.length
    · have hd : decide ((i : Int) < (l0_1.length : Int)) = true := by simp; omega
      have hil : ((List.range i).map (fun i : Nat => (i : Int))).length = i := by simp
      have HL := Aside0.mk hil
      clear hil
      go_wp2_with (first | ((with_reducible refine gate_builtin (b := .append) (xs := #[.tmp 11, .tmp 13]) rfl ?_); at_builtin; go_must (refine Kd.R_append (Kd.int .i64) W1.heap.size rfl (.tmp 11) (.tmp 13) 29 3 (.int .i64 0) 8 rfl Tryd.underlying29 info_i64 rfl (by decide) (by omega) u3 ((List.range i).map (fun i : Nat => (i : Int))) (i : Int) [.int .i64 (i : Int)] (fun _ => True) (fun _ => False) rfl rfl ?aP (fun _ hk => hk.elim) ?aF ?aO HB.out ?aS ?aL ?_); (case aP => exact rfl); (case aF => exact (fun _ _ => trivial)); (case aO => exact (by (with_reducible repeat (first | apply Kd.R_alloc | apply Kd.R_drewN | apply Kd.R_drew)); exact HO.out)); (case aS => exact HB.out.size); (case aL => have := HL.out; omega); intro v119 w10 ho hb hg hat; have HO2 : Aside0 (Kd.R (Kd.int .i64) 3 w10 W1.heap.size (fun _ => True) v119 ((List.range (i + 1)).map (fun i : Nat => (i : Int)))) := ⟨by rw [List.range_succ, List.map_append]; exact ho⟩; have HB2 := Aside0.mk hb; clear HO HB ho hb hg hat))
      go_roundg (l0_1.length - (i + 1))
      case measure => omega
      case rel => exact ⟨i + 1, by first | rfl | simp, by omega, HO2, HB2⟩
    · have hd : decide ((i : Int) < (l0_1.length : Int)) = false := by simp; omega
      obtain rfl : i = l0_1.length := by omega
      clear hik hlt
      obtain ⟨A3, c3, hv3⟩ := Kd.R_slice HO.out
      have hll : ((List.range l0_1.length).map (fun i : Nat => (i : Int))).length = l0_1.length := by simp
      rw [hll] at hv3
      rw [hv3] at HO ⊢
      clear hll hv3
      have eg : ∀ args w, (callFunc 24 args).run Tryd.prog w = .ok (.enter 24 args) w := fun args w => by go_simp; done
      by_cases hn : l0_1.length = 0
      · have hS := fun W' => AnyF.slices_SortFunc_none (P := Tryd.prog) (ρ := Tryd.shSort_ren) { Tryd.shSort with } A3 c3 (.func (.func 24) #[] #[.pointer (some ⟨gs, 0, none⟩)]) W'
        change ∀ W', Calls Tryd.prog 23 _ _ _ at hS
        have HR2 : Aside0 (r = []) := ⟨by
          rw [← HR.out]
          have h0 : (ordF l0_1).length = l0_1.length := by unfold ordF ordN; simp
          exact List.eq_nil_of_length_eq_zero (by omega)⟩
        have HO3 : Aside0 (Kd.R (Kd.int .i64) 3 wr W1.heap.size (fun _ => True) (.slice A3 0 c3) []) := ⟨by have := HO.out; rw [hn] at this; exact this⟩
        rw [hn]
        clear HO hn
        go_wp2_with fail
        refine (hS _).mono ?_
        rintro e w' ⟨rfl, rfl⟩
        go_wp2_with fail
        go_ret
        rw [← HGS.out]
        exact ⟨_, rfl, by rw [HR2.out]; exact Kd.R_lower HO3.out (by have := HZ1.out; omega), below_step HB1.out HB.out⟩
      · haveI : Inhabited (Fin l0_1.length) := ⟨⟨0, by omega⟩⟩
        have hrow : ∃ g cur, A3 = some ⟨g, 0, none⟩ ∧ W1.heap.size ≤ g ∧ wr.heap[g]? = some (.cells cur 3 (0, 0)) ∧ l0_1.length ≤ c3 ∧ c3 ≤ maxLen ∧ cur.size = c3 ∧ cur.toList.take l0_1.length = (List.finRange l0_1.length).map ordE := by
          have ho := Kd.own_of_R HO.out
          rcases ho.2 with ⟨h1, h2⟩ | ⟨g, cap, cur, h1, h2, h3, h4, h5, h6, h7⟩
          · simp at h2; exact absurd (by rw [h2]; rfl) hn
          · injection h1 with e1 e2 e3
            subst e3
            refine ⟨g, cur, e1, h2, h3, by simpa using h4, h5, by simpa using h6, ?_⟩
            rw [ordE_map, finR]
            simpa [encs] using h7
        obtain ⟨g, cur, rfl, hg, hcur, hlc, hcm, hcs, htk⟩ := hrow
        have hgl : g < wr.heap.size := by
          rcases Nat.lt_or_ge g wr.heap.size with h | h
          · exact h
          · rw [Array.getElem?_eq_none h] at hcur; cases hcur
        have hH : Holds ordE wr g 0 (List.finRange l0_1.length).toArray := fun j hj => by
          have hj2 : j < l0_1.length := by simpa using hj
          refine ⟨?_, ?_⟩
          · have hc1 : wr.cell? ⟨g, 0 + j, none⟩ = cur[0 + j]? := blk_cell hcur _
            rw [hc1, Nat.zero_add]
            have h2 := congrArg (fun l : List Value => l[j]?) htk
            simp only [List.getElem?_take, if_pos hj2, Array.getElem?_toList, List.getElem?_map] at h2
            rw [h2, List.getElem?_eq_getElem (by simpa using hj2)]
            simp [getElem!_pos, hj2]
          · exact blk_frozen hcur _
        have hx : wr.ownsRow W1.heap.size 3 1 (.slice (some ⟨g, 0, none⟩) (List.finRange l0_1.length).length c3) (List.finRange l0_1.length).length ((List.finRange l0_1.length).map ordE) := by
          rw [List.length_finRange]
          exact ⟨by simp, .inr ⟨g, c3, cur, rfl, hg, hcur, hlc, hcm, by omega, by rw [Nat.mul_one]; exact htk⟩⟩
        have hcmp : CmpLays1 Tryd.prog 24 #[.pointer (some ⟨gs, 0, none⟩)] ordE (ordC l0_1) g 0 (List.finRange l0_1.length).toArray.size wr := fun m os dk hs x y => by
          have hdk : dk.toList.length = (List.finRange l0_1.length).length := by simpa using hs
          have hr := sorted_row hdk hg hx HB.out m os
          have hb := hr.2
          have hk := blk_below HK1.out hb
          have hC := Kd.C_below HC1.out hb
          rw [show dk.toList.toArray = dk from by simp] at hk hC
          exact (ord_cmp a0_0 A0_1 c0_1 l0_1 gs _ hk hC (by omega) x y).mono fun _ _ ⟨he, q, hq⟩ => ⟨he, q, #[], by rw [hq, grow_empty]⟩
        have hS := Any.slices_SortFunc_total Tryd.shSort ordE (fun _ => rfl) (ordC l0_1) (ordO l0_1) 24 #[.pointer (some ⟨gs, 0, none⟩)] g 0 c3 (List.finRange l0_1.length).toArray wr eg hcmp hH hgl (by simp; omega) (ordT l0_1 HND.out)
        rw [ordG] at hS
        simp only [List.size_toArray, List.length_finRange] at hS
        change Calls Tryd.prog 23 _ _ _ at hS
        have HX := Aside0.mk hx
        have HG := Aside0.mk hg
        clear hH hcmp hx hcur hlc hcm hcs htk hgl hg
        go_wp2_with fail
        refine hS.mono ?_
        rintro e w' ⟨rfl, n, os, rfl⟩
        clear hS
        have hys : (ordN l0_1).length = (List.finRange l0_1.length).length := by unfold ordN; simp
        have HR0 : Kd.R (Kd.int .i64) 3 wr W1.heap.size (fun _ => True) (.slice (some ⟨g, 0, none⟩) (List.finRange l0_1.length).length c3) ((List.finRange l0_1.length).map (fun i => (i.val : Int))) := by
          rw [finR, List.length_finRange]; exact HO.out
        have hfin := ord_out hys HR0 HB.out n os
        rw [List.length_finRange] at hfin
        have HF := Aside0.mk hfin
        clear hfin HR0 hys
        obtain ⟨wz, hwz⟩ : ∃ wz, wz = sortWorld ordE wr g 0 n (ordN l0_1).toArray os := ⟨_, rfl⟩
        have HF2 : Aside0 (Kd.R (Kd.int .i64) 3 wz W1.heap.size (fun _ => True) (.slice (some ⟨g, 0, none⟩) l0_1.length c3) (ordF l0_1) ∧ Below W1.heap.size W1 wz) := ⟨by rw [hwz]; exact HF.out⟩
        clear HF
        rw [show sortWorld ordE wr g 0 n ((List.finRange l0_1.length).mergeSort (fun x y => decide (l0_1[x].f10 ≤ l0_1[y].f10))).toArray os = wz from hwz.symm]
        clear hwz
        go_wp2_with fail
        go_ret
        rw [← HGS.out]
        exact ⟨_, rfl, by rw [← HR.out]; exact Kd.R_lower HF2.out.1 (by have := HZ1.out; omega), below_step HB1.out HF2.out.2⟩
end Go.Proofs.YtphppahjkcnjlaaDoor.Q
