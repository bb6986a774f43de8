-- IndexModel: walked by hand.
-- HAND pendulum/pendulumlaw03.IndexModel rounds=0 making=1
-- NEEDS pendulum/pendulumref03.Find pendulum/pendulumref03.Same pendulum/pendulumlaw03.few pendulum/pendulumref03.Named
import Derived.Test.YtncmfomhigielaaDoorQ0
import Derived.Test.YtncmfomhigielaaDoorQ0
import Derived.Test.YtncmfomhigielaaDoorQ3
import Derived.Test.YtncmfomhigielaaDoorQ4
import Derived.Test.YtncmfomhigielaaDoorQ5
import Derived.Test.YtncmfomhigielaaDoorHidxC
import Derived.Test.YtncmfomhigielaaDoorHidxR
import Derived.Test.YtncmfomhigielaaDoorHidxS
import Derived.Test.YtncmfomhigielaaDoorHidxW
import Derived.Test.YtncmfomhigielaaDoorHnamed
import Derived.Test.YtncmfomhigielaaDoorLidxM
import Derived.Test.YtncmfomhigielaaDoorLidxN
import Derived.Test.YtncmfomhigielaaDoorLidxS
import Derived.Test.YtncmfomhigielaaDoorHidxW
import Derived.Test.YtncmfomhigielaaDoorHidxR
import Derived.Test.YtncmfomhigielaaDoorLidxS
import Derived.Deep.RegionHeld3
namespace Go.Proofs.YtncmfomhigielaaDoor.Q
open Go.RowKit Go.Proofs.YtncmfomhigielaaDoorW.PrintWords Go.Proofs.YtncmfomhigielaaDoorW.PrintLast Go.Proofs.YtncmfomhigielaaDoorW.PrintMore
attribute [local go_sem] max2_int min2_int max_two min_two max_three min_three max_four min_four   -- for this text's walks alone
set_option linter.unusedVariables false
set_option linter.unusedSimpArgs false

def pendulumlaw03_IndexModel.f : Option Bool := some true
def pendulumlaw03_IndexModel.Pure : Prop := True
theorem IdxAt.grown {S : Nat → Prop} {W W' : World} {g : Nat} {ns : List ByteArray} {room : Int} {row : Option Nat} (h : IdxAt S W g ns room) (hg : W.grownBy W' row) (hne : ∀ k, S k → some k ≠ row) : IdxAt S W' g ns room := by
  obtain ⟨v1, v2, os, ⟨h1, h2, h3, h4⟩, h5⟩ := h
  exact ⟨v1, v2, os, ⟨blk_grown h1 hg (hne _ h2), h2, Kd.R_grown h3 hg hne, Kd.R_grown h4 hg hne⟩, h5⟩
/-- An index, and a row of names, apart. -/
def One (w wr : World) (gx : Nat) (ns ms : List ByteArray) (room : Int) (v : Value) : Prop := ∃ Sx Sm : Nat → Prop, IdxAt Sx wr gx ns room ∧ Kd.R Kd.string 9 wr w.heap.size Sm v ms ∧ (∀ k, Sx k → ¬ Sm k) ∧ (∀ k, Sx k → w.heap.size ≤ k) ∧ Below w.heap.size w wr
theorem One.out_below {w wr : World} {gx : Nat} {ns ms : List ByteArray} {room : Int} {v : Value} (h : One w wr gx ns ms room v) : Below w.heap.size w wr := by obtain ⟨_, _, _, _, _, _, h⟩ := h; exact h
theorem One.below {w wr wr1 : World} {gx : Nat} {ns ms : List ByteArray} {room : Int} {v : Value} (h : One w wr gx ns ms room v) (hb : Below wr.heap.size wr wr1) : One w wr1 gx ns ms room v := by
  obtain ⟨Sx, Sm, h1, h2, h3, h4, h5⟩ := h
  exact ⟨Sx, Sm, h1.below hb, Kd.R_below h2 hb, h3, h4, below_step h5 hb⟩
theorem One.row {w wr : World} {gx : Nat} {ns ms : List ByteArray} {room : Int} {v : Value} (h : One w wr gx ns ms room v) : ∃ A c, v = .slice A ms.length c ∧ ms.length ≤ c ∧ Kd.C Kd.string wr A ms.length ms := by
  obtain ⟨Sx, Sm, h1, h2, h3, h4, h5⟩ := h
  exact Kd.R_reads h2
theorem One.nodup {w wr : World} {gx : Nat} {ns ms : List ByteArray} {room : Int} {v : Value} (h : One w wr gx ns ms room v) : ns.Nodup ∧ ns.length ≤ 1000000 := by
  obtain ⟨Sx, Sm, ⟨_, _, _, _, o⟩, _⟩ := h
  exact ⟨o.2.2.1, o.2.2.2⟩
theorem one_put {w wr : World} {gx : Nat} {ns ms : List ByteArray} {room : Int} {v : Value} (h : One w wr gx ns ms room v) (hns : ns.length < 1000000) (x : ByteArray) :
    Calls Tryd.prog 13 #[.pointer (some ⟨gx, 0, none⟩), .string x] wr fun e W' => e = .returned (.tuple #[.int .i64 (putN ns room x), .int .i64 (putE ns room x)]) ∧ One w W' gx (putI ns room x) ms room v := by
  obtain ⟨Sx, Sm, h1, h2, h3, h4, h5⟩ := h
  have hs := h5.size
  refine (put_ask h1 hns x).mono fun e W' ⟨he, hI, hk, h0⟩ => ⟨he, (fun k => Sx k ∨ wr.heap.size ≤ k), (fun k => Sm k ∧ k < wr.heap.size), hI, Kd.R_kept (Kd.R_mono (Kd.R_bound h2) (fun k hk => ⟨hk.1, hk.2.2.1⟩)) hk (fun k a b => h3 k b a.1), fun k a b => ?_, fun k a => ?_, below_put h5 hk h0 h4⟩
  · rcases a with a | a
    · exact h3 k a b.1
    · have := b.2; omega
  · rcases a with a | a
    · exact h4 k a
    · exact Nat.le_trans hs a
theorem one_find {w wr : World} {gx : Nat} {ns ms : List ByteArray} {room : Int} {v : Value} (h : One w wr gx ns ms room v) (x : ByteArray) :
    Calls Tryd.prog 16 #[.pointer (some ⟨gx, 0, none⟩), .string x] wr fun e W' => ∃ n : Nat, e = .returned (.tuple #[.int .i64 n, .bool (hasN ns x)]) ∧ (hasN ns x = true → ns[n]? = some x) ∧ (hasN ns x = false → n = 0) ∧ One w W' gx ns ms room v := by
  obtain ⟨Sx, Sm, h1, h2, h3, h4, h5⟩ := h
  refine (find_ask h1 x).mono fun e W' ⟨n, he, a, b, hb⟩ => ⟨n, he, a, b, One.below ⟨Sx, Sm, h1, h2, h3, h4, h5⟩ hb⟩
theorem one_name {w wr : World} {gx : Nat} {ns ms : List ByteArray} {room : Int} {v : Value} (h : One w wr gx ns ms room v) (i : Int) :
    Calls Tryd.prog 18 #[.pointer (some ⟨gx, 0, none⟩), .int .i64 i] wr fun e W' => e = .returned (if 0 ≤ i ∧ i < (ns.length : Int) then .tuple #[.string (rdOf ByteArray.empty ns i), .bool true] else .tuple #[.string ⟨#[]⟩, .bool false]) ∧ One w W' gx ns ms room v := by
  obtain ⟨Sx, Sm, h1, h2, h3, h4, h5⟩ := h
  refine (name_ask h1 i).mono fun e W' ⟨he, hb⟩ => ⟨he, One.below ⟨Sx, Sm, h1, h2, h3, h4, h5⟩ hb⟩
theorem one_sorted {w wr : World} {gx : Nat} {ns ms : List ByteArray} {room : Int} {v : Value} (h : One w wr gx ns ms room v) :
    Calls Tryd.prog 14 #[.pointer (some ⟨gx, 0, none⟩)] wr fun e W' => ∃ (A : Option Addr) (c : Nat), e = .returned (.slice A (srt ns).length c) ∧ (srt ns).length ≤ c ∧ Kd.C Kd.string W' A (srt ns).length (srt ns) ∧ One w W' gx ns ms room v ∧ Below wr.heap.size wr W' := by
  obtain ⟨Sx, Sm, h1, h2, h3, h4, h5⟩ := h
  refine (sorted_ask h1).mono ?_
  rintro e W' ⟨v, he, hR, hb⟩
  obtain ⟨A, c, rfl, hl, hC⟩ := Kd.R_reads hR
  exact ⟨A, c, he, hl, hC, One.below ⟨Sx, Sm, h1, h2, h3, h4, h5⟩ hb, hb⟩
theorem one_appended {w wr w1 : World} {gx : Nat} {ns ms ms1 : List ByteArray} {room : Int} {v v1 : Value} {Sx Sm : Nat → Prop} (h1 : IdxAt Sx wr gx ns room) (h2 : Kd.R Kd.string 9 wr w.heap.size Sm v ms) (h3 : ∀ k, Sx k → ¬ Sm k) (h4 : ∀ k, Sx k → w.heap.size ≤ k) (h5 : Below w.heap.size w wr)
    (ho : Kd.R Kd.string 9 w1 w.heap.size (fun k => Sm k ∨ wr.heap.size ≤ k) v1 ms1) (hb : Below w.heap.size w w1) (hg : wr.grownBy w1 v.ownBlock) : One w w1 gx ns ms1 room v1 :=
  ⟨fun k => Sx k ∧ k < wr.heap.size, _, h1.bound.grown hg (fun k hk e => h3 k hk.1 (h2.1 k e.symm)), ho, fun k a b => b.elim (h3 k a.1) (fun b => by have := a.2; omega), fun k a => h4 k a.1, hb⟩
theorem putI_same {ns : List ByteArray} {room : Int} {x : ByteArray} (h : (named x = false) ∨ (named x = true ∧ hasN ns x = true) ∨ (named x = true ∧ hasN ns x = false ∧ (ns.length : Int) = room)) : putI ns room x = ns ∧ putN ns room x = 0 := by
  unfold putI putN
  rcases h with h | ⟨h1, h2⟩ | ⟨h1, h2, h3⟩
  · simp [h]
  · simp [h1, h2]
  · simp [h1, h2, h3]
set_option maxHeartbeats 4000000 in
set_option maxRecDepth 100000 in
theorem pendulumlaw03_IndexModel.walk (P : pendulumlaw03_IndexModel.Pure) (a0 : Int) (a1 : Option Addr) (cap1 : Nat) (l0 : List ByteArray) (a2 : ByteArray) (w : World) (w0 : (Lit.int .i64 a0).wf = true) (hr0 : Kd.C Kd.string w a1 l0.length l0) (hc0 : l0.length ≤ cap1) (w2 : a2.size ≤ 140737488351232) :
    Calls Tryd.prog 7 #[.int .i64 a0, .slice a1 l0.length cap1, .string a2] w fun e w' => e = .returned (.bool true) ∧ Below w.heap.size w w' := by
  have HR0 := Aside0.mk hr0
  clear hr0 w0 w2
  obtain ⟨kf, rf, hf, hfl⟩ := few_ask l0
  have HF := Aside0.mk hf
  clear hf
  go_enter Tryd.func7, Tryd.ntmps7
  go_wp2_with fail
  refine (pendulumlaw03_awake.calls true _ rfl).mono ?_
  rintro e wA ⟨rfl, hb⟩
  have HB := Aside0.mk hb
  clear hb
  go_wp2_with fail
  refine (pendulumlaw03_few.calls kf a1 cap1 l0 rf wA (Kd.C_below HR0.out HB.out) hc0 HF.out).mono ?_
  rintro e wB ⟨rfl, hd⟩
  have HBB := Aside0.mk (below_step HB.out hd.below)
  clear hd HB
  cases rf with
  | false =>
    clear hfl
    go_wp2_with fail
    refine (pendulumlaw03_awake.calls true _ rfl).mono ?_
    rintro e wC ⟨rfl, hb⟩
    have HB2 := Aside0.mk (below_step HBB.out hb)
    clear hb HBB
    go_wp2_with fail
    go_ret
    exact ⟨rfl, HB2.out⟩
  | true =>
    have hl3 := hfl rfl
    clear hfl
    by_cases hz : (a2.size : Int) > 60
    · have hz2 : decide ((a2.size : Int) > 60) = true := decide_eq_true hz
      have HZ := Aside0.mk hz
      clear hz
      go_wp2_with fail
      refine (pendulumlaw03_awake.calls true _ rfl).mono ?_
      rintro e wC ⟨rfl, hb⟩
      have HB2 := Aside0.mk (below_step HBB.out hb)
      clear hb HBB
      go_wp2_with fail
      go_ret
      exact ⟨rfl, HB2.out⟩
    · have hz2 : decide ((a2.size : Int) > 60) = false := decide_eq_false hz
      have HZ := Aside0.mk hz
      clear hz
      by_cases hroom : a0 < 1 ∨ 256 < a0
      · have hn := new_no a0 hroom wB
        have d1 : (if decide (a0 < 1) = true then true else decide (a0 > 256)) = true := by
          rcases hroom with h | h
          · rw [if_pos (decide_eq_true h)]
          · by_cases h1 : a0 < 1
            · rw [if_pos (decide_eq_true h1)]
            · rw [if_neg (by rw [decide_eq_false h1]; decide)]; exact decide_eq_true h
        have HD1 := Aside0.mk d1
        go_wp2_with fail
        refine hn.mono ?_
        rintro e wC ⟨rfl, rfl⟩
        clear hn
        by_cases h1 : a0 < 1
        · have d0 : decide (a0 < 1) = true := decide_eq_true h1
          go_wp2_with fail
          go_ret
          exact ⟨rfl, HBB.out⟩
        · have d0 : decide (a0 < 1) = false := decide_eq_false h1
          have d2 : decide (a0 > 256) = true := decide_eq_true (by omega)
          go_wp2_with fail
          go_ret
          exact ⟨rfl, HBB.out⟩
      · have hr1 : 1 ≤ a0 := by omega
        have hr2 : a0 ≤ 256 := by omega
        have d0 : decide (a0 < 1) = false := decide_eq_false (by omega)
        have d2 : decide (a0 > 256) = false := decide_eq_false (by omega)
        clear hroom
        go_wp2_with fail
        refine (new_ask a0 hr1 hr2 wB).mono ?_
        rintro e wC ⟨rfl, hI, hb⟩
        obtain ⟨gx, hgx⟩ : ∃ gx, wB.heap.size = gx := ⟨_, rfl⟩
        have HO : Aside0 (One w wC gx [] [] a0 (.slice none 0 0)) := ⟨⟨_, fun _ => False, by rw [← hgx]; exact hI, Kd.R_nil _ _ _ _ _, fun _ _ h => h, fun k hk => Nat.le_trans HBB.out.size hk, below_step HBB.out hb⟩⟩
        rw [hgx]
        clear hI hb hgx HBB
        go_wp2_with fail
        go_loopg [9, 10] l0.length (fun kk v9_ v10 wr => ∃ (i : Nat) (ns : List ByteArray), v10 = .int .i64 i ∧ i + kk = l0.length ∧ Aside0 (ns.length ≤ i) ∧ Aside0 (One w wr gx ns ns a0 v9_))
        case atStart => exact ⟨0, [], rfl, by omega, ⟨Nat.le_refl _⟩, HO⟩
        case round =>
          clear HO
          obtain ⟨i, ns, rfl, hik, HNL, HO⟩ := hrel
          by_cases hlt : i < l0.length
          · have hd : decide ((i : Int) < (l0.length : Int)) = true := by simp; omega
            obtain ⟨ad, e, hx0⟩ := Kd.at_string HR0.out (i : Int) (by omega) (by omega)
            cases e
            have hx := pw_cell_below HO.out.out_below hx0
            simp only [Int.toNat_natCast] at hx
            obtain ⟨x, hxx⟩ : ∃ x, rdOf ByteArray.empty l0 (i : Int) = x := ⟨_, rfl⟩
            rw [hxx] at hx hx0
            have HX0 := Aside0.mk hx0
            have p0 : (0 : Int) ≤ i := by omega
            have p1 : (i : Int) < (l0.length : Int) := by omega
            have hnl : ns.length ≤ 300 := by have := HNL.out; omega
            clear hxx hx0
            go_wp2_with fail
            refine (one_put HO.out (by omega) x).mono ?_
            rintro e wD ⟨rfl, hO⟩
            have HO2 := Aside0.mk hO
            clear hO HO hx
            have hx := pw_cell_below HO2.out.out_below HX0.out
            simp only [Int.toNat_natCast] at hx
            cases hnm : named x with
            | false =>
              obtain ⟨e1, e2⟩ := putI_same (ns := ns) (room := a0) (x := x) (.inl hnm)
              have HO3 := HO2
              rw [e1] at HO3
              rw [e2, show putE ns a0 x = 1 by unfold putE; rw [if_pos hnm]]
              have HNM := Aside0.mk hnm
              clear hnm HO2 e1 e2
              go_wp2_with fail
              refine (pendulumref03_Named.calls 20 x false _ (by rw [ref_named x 20 (Nat.le_refl _), HNM.out])).mono ?_
              rintro e wE ⟨rfl, hdw⟩
              have HO4 := Aside0.mk (HO3.out.below hdw.below)
              clear hdw HO3 hx
              go_wp2_with fail
              go_roundg (l0.length - (i + 1))
              case measure => omega
              case rel => exact ⟨i + 1, ns, by first | rfl | simp, by omega, ⟨by have := HNL.out; omega⟩, HO4⟩
            | true =>
              obtain ⟨A9, c9, hv9, l9, C9⟩ := HO2.out.row
              subst hv9
              obtain ⟨kk, rr, hff, hf1, hf2⟩ := find_ref ns x (by omega)
              have HFF := Aside0.mk hff
              have HNM := Aside0.mk hnm
              have HC9 := Aside0.mk C9
              clear hff C9
              cases hhs : hasN ns x with
              | true =>
                obtain ⟨e1, e2⟩ := putI_same (ns := ns) (room := a0) (x := x) (.inr (.inl ⟨hnm, hhs⟩))
                have HO3 : Aside0 (One w wD gx ns ns a0 (.slice A9 ns.length c9)) := ⟨by have := HO2.out; rwa [e1] at this⟩
                rw [e2, show putE ns a0 x = 7 by unfold putE; rw [if_neg (by rw [hnm]; decide), if_pos hhs]]
                obtain ⟨jj, hjj, _⟩ := hf1 hhs
                subst hjj
                have hge : decide ((jj : Int) ≥ 0) = true := by simp
                clear hnm HO2 e1 e2 hhs hf1 hf2
                go_wp2_with fail
                refine (pendulumref03_Named.calls 20 x true _ (by rw [ref_named x 20 (Nat.le_refl _), HNM.out])).mono ?_
                rintro e wE ⟨rfl, hdw⟩
                have HO4 := Aside0.mk (HO3.out.below hdw.below)
                have HC92 := Aside0.mk (Kd.C_below HC9.out hdw.below)
                have hx := pw_cell_below HO4.out.out_below HX0.out
                simp only [Int.toNat_natCast] at hx
                clear hdw HO3 HC9
                go_wp2_with fail
                refine (pendulumref03_Find.calls kk A9 c9 ns x jj wE HC92.out l9 HFF.out).mono ?_
                rintro e wF ⟨rfl, hdw⟩
                have HO5 := Aside0.mk (HO4.out.below hdw.below)
                clear hdw HO4 hx HC92
                go_wp2_with fail
                go_roundg (l0.length - (i + 1))
                case measure => omega
                case rel => exact ⟨i + 1, ns, by first | rfl | simp, by omega, ⟨by have := HNL.out; omega⟩, HO5⟩
              | false =>
                have hrr := hf2 hhs
                subst hrr
                by_cases hfu : (ns.length : Int) = a0
                · obtain ⟨e1, e2⟩ := putI_same (ns := ns) (room := a0) (x := x) (.inr (.inr ⟨hnm, hhs, hfu⟩))
                  have HO3 : Aside0 (One w wD gx ns ns a0 (.slice A9 ns.length c9)) := ⟨by have := HO2.out; rwa [e1] at this⟩
                  rw [e2, show putE ns a0 x = 3 by unfold putE; rw [if_neg (by rw [hnm]; decide), if_neg (by rw [hhs]; decide), if_pos hfu]]
                  have hful : ((ns.length : Int) == a0) = true := beq_iff_eq.2 hfu
                  have HFU := Aside0.mk hfu
                  clear hnm HO2 e1 e2 hhs hf1 hf2 hfu
                  go_wp2_with fail
                  refine (pendulumref03_Named.calls 20 x true _ (by rw [ref_named x 20 (Nat.le_refl _), HNM.out])).mono ?_
                  rintro e wE ⟨rfl, hdw⟩
                  have HO4 := Aside0.mk (HO3.out.below hdw.below)
                  have HC92 := Aside0.mk (Kd.C_below HC9.out hdw.below)
                  have hx := pw_cell_below HO4.out.out_below HX0.out
                  simp only [Int.toNat_natCast] at hx
                  clear hdw HO3 HC9
                  go_wp2_with fail
                  refine (pendulumref03_Find.calls kk A9 c9 ns x (-1) wE HC92.out l9 HFF.out).mono ?_
                  rintro e wF ⟨rfl, hdw⟩
                  have HO5 := Aside0.mk (HO4.out.below hdw.below)
                  clear hdw HO4 hx HC92
                  go_wp2_with fail
                  go_roundg (l0.length - (i + 1))
                  case measure => omega
                  case rel => exact ⟨i + 1, ns, by first | rfl | simp, by omega, ⟨by have := HNL.out; omega⟩, HO5⟩
                · have e1 : putI ns a0 x = ns ++ [x] := by unfold putI; rw [if_neg (by rw [hnm]; decide), if_neg (by rw [hhs]; decide), if_neg hfu]
                  have e2 : putN ns a0 x = ns.length := by unfold putN; rw [if_neg (by rw [hnm]; decide), if_neg (by rw [hhs]; decide), if_neg hfu]
                  have HO3 : Aside0 (One w wD gx (ns ++ [x]) ns a0 (.slice A9 ns.length c9)) := ⟨by have := HO2.out; rwa [e1] at this⟩
                  rw [e2, show putE ns a0 x = 0 by unfold putE; rw [if_neg (by rw [hnm]; decide), if_neg (by rw [hhs]; decide), if_neg hfu]]
                  have hful : ((ns.length : Int) == a0) = false := beq_eq_false_iff_ne.2 hfu
                  have HFU := Aside0.mk hfu
                  clear hnm HO2 e1 e2 hhs hf1 hf2 hfu
                  go_wp2_with fail
                  refine (pendulumref03_Named.calls 20 x true _ (by rw [ref_named x 20 (Nat.le_refl _), HNM.out])).mono ?_
                  rintro e wE ⟨rfl, hdw⟩
                  have HO4 := Aside0.mk (HO3.out.below hdw.below)
                  have HC92 := Aside0.mk (Kd.C_below HC9.out hdw.below)
                  have hx := pw_cell_below HO4.out.out_below HX0.out
                  simp only [Int.toNat_natCast] at hx
                  clear hdw HO3 HC9
                  go_wp2_with fail
                  refine (pendulumref03_Find.calls kk A9 c9 ns x (-1) wE HC92.out l9 HFF.out).mono ?_
                  rintro e wF ⟨rfl, hdw⟩
                  have HO5 := Aside0.mk (HO4.out.below hdw.below)
                  have hx := pw_cell_below HO5.out.out_below HX0.out
                  simp only [Int.toNat_natCast] at hx
                  clear hdw HO4 HC92
                  have hnn : ((ns.length : Int) == (ns.length : Int)) = true := beq_self_eq_true _
                  obtain ⟨Sx, Sm, q1, q2, q3, q4, q5⟩ := HO5.out
                  have Q1 := Aside0.mk q1
                  have Q2 := Aside0.mk q2
                  have Q3 := Aside0.mk q3
                  have Q4 := Aside0.mk q4
                  have Q5 := Aside0.mk q5
                  clear q1 q2 q3 q4 q5 HO5
                  go_wp2_with (first | ((with_reducible refine gate_builtin (b := .append) (xs := #[.tmp 117, .tmp 122]) rfl ?_); at_builtin; refine Kd.R_append Kd.string w.heap.size rfl (.tmp 117) (.tmp 122) 24 9 (.string ⟨#[]⟩) 16 rfl Tryd.underlying24 idx_infoS rfl (by decide) (by omega) _ ns x [.string x] (fun k => Sm k ∨ wF.heap.size ≤ k) (fun _ => False) rfl rfl ?aP (fun _ hk => hk.elim) ?aF ?aO Q5.out ?aS ?aL ?_; (case aP => exact rfl); (case aF => exact (fun _ hk => .inr hk)); (case aO => exact (Kd.R_mono Q2.out (fun _ hk => .inl hk))); (case aS => exact (Q5.out.size)); (case aL => omega); intro v119 w10 ho hb hg hat; have HO6 := Aside0.mk (one_appended Q1.out Q2.out Q3.out Q4.out Q5.out ho hb hg); clear ho hb hg hat))
                  go_roundg (l0.length - (i + 1))
                  case measure => omega
                  case rel => exact ⟨i + 1, ns ++ [x], by first | rfl | simp, by omega, ⟨by have := HNL.out; simp; omega⟩, HO6⟩
          · have hd : decide ((i : Int) < (l0.length : Int)) = false := by simp; omega
            obtain ⟨A9, c9, hv9, l9, C9⟩ := HO.out.row
            subst hv9
            have hnl : ns.length ≤ 300 := by have := HNL.out; omega
            obtain ⟨wq, hwq⟩ : ∃ wq, wq = wr := ⟨_, rfl⟩
            subst hwq
            have HC9 := Aside0.mk C9
            have HND := Aside0.mk HO.out.nodup
            clear C9 HNL
            go_wp2_with fail
            go_loopg [14] ns.length (fun kk v14 wr => ∃ j : Nat, v14 = .int .i64 j ∧ j + kk = ns.length ∧ Aside0 (One w wr gx ns ns a0 (.slice A9 ns.length c9)))
            case atStart => exact ⟨0, rfl, by omega, HO⟩
            case round =>
              clear HO HC9
              obtain ⟨j, rfl, hjk, HO1⟩ := hrel
              obtain ⟨A9q, c9q, e9, _, C9⟩ := HO1.out.row
              simp only [Value.slice.injEq, true_and] at e9
              obtain ⟨rfl, rfl⟩ := e9
              have HC9 := Aside0.mk C9
              clear C9
              by_cases hjl : j < ns.length
              · have hd2 : decide ((j : Int) < (ns.length : Int)) = true := by simp; omega
                obtain ⟨ad9, e, hx0⟩ := Kd.at_string HC9.out (j : Int) (by omega) (by omega)
                cases e
                have hx := hx0
                have hxj : ns[j]? = some (rdOf ByteArray.empty ns (j : Int)) := by simp [rdOf, List.getD_eq_getElem?_getD, List.getElem?_eq_getElem hjl]
                obtain ⟨x, hxx⟩ : ∃ x, rdOf ByteArray.empty ns (j : Int) = x := ⟨_, rfl⟩
                have HXX := Aside0.mk hxx
                rw [hxx] at hx hxj hx0
                simp only [Int.toNat_natCast] at hx
                have HX0 := Aside0.mk hx0
                have HHS : Aside0 (hasN ns x = true) := ⟨(hasN_iff _ _).2 (List.mem_of_getElem? hxj)⟩
                have HXJ := Aside0.mk hxj
                have p0 : (0 : Int) ≤ j := by omega
                have p1 : (j : Int) < (ns.length : Int) := by omega
                clear hxx hxj hx0
                go_wp2_with fail
                refine (one_find HO1.out x).mono ?_
                rintro e wD ⟨n, rfl, hf1, _, hO⟩
                have hnj : n = j := by
                  have h2 := hf1 HHS.out
                  have hlt2 : n < ns.length := (List.getElem?_eq_some_iff.1 h2).1
                  exact (List.getElem?_inj hlt2 HND.out.1).1 (h2.trans HXJ.out.symm)
                subst hnj
                rw [HHS.out]
                have HO2 := Aside0.mk hO
                clear hO HO1 hf1 hx
                go_wp2_with fail
                refine (one_name HO2.out (n : Int)).mono ?_
                rintro e wE ⟨rfl, hO⟩
                rw [if_pos ⟨p0, p1⟩, HXX.out]
                have HO3 := Aside0.mk hO
                obtain ⟨A9', c9', e9, _, C9'⟩ := hO.row
                simp only [Value.slice.injEq, true_and] at e9
                obtain ⟨rfl, rfl⟩ := e9
                obtain ⟨ad9', e, hx⟩ := Kd.at_string C9' (n : Int) p0 p1
                cases e
                rw [HXX.out] at hx
                simp only [Int.toNat_natCast] at hx
                have hnn : ((n : Int) == (n : Int)) = true := beq_self_eq_true _
                have hss : (x.toList == x.toList) = true := beq_self_eq_true _
                clear hO HO2 C9'
                go_wp2_with fail
                go_roundg (ns.length - (n + 1))
                case measure => omega
                case rel => exact ⟨n + 1, by first | rfl | simp, by omega, HO3⟩
              · have hd2 : decide ((j : Int) < (ns.length : Int)) = false := by simp; omega
                obtain ⟨kf2, rr, hff, hf1, hf2⟩ := find_ref ns a2 (by omega)
                have HFF := Aside0.mk hff
                have HC91 := HC9
                clear HC9
                clear hff
                go_wp2_with fail
                refine (pendulumref03_Find.calls kf2 A9 c9 ns a2 rr _ HC91.out l9 HFF.out).mono ?_
                rintro e wF ⟨rfl, hdw⟩
                have HO2 := Aside0.mk (HO1.out.below hdw.below)
                have HC92 := Aside0.mk (Kd.C_below HC91.out hdw.below)
                clear hdw HO1 HC91
                go_wp2_with fail
                refine (one_find HO2.out a2).mono ?_
                rintro e wG ⟨n, rfl, hg1, hg2, hO⟩
                have HO3 := Aside0.mk hO
                clear hO HO2
                go_wp2_with fail
                refine (one_name HO3.out (ns.length : Int)).mono ?_
                rintro e wH ⟨rfl, hO⟩
                rw [if_neg (by omega)]
                have HO4 := Aside0.mk hO
                clear hO HO3
                go_wp2_with fail
                refine (one_name HO4.out (-1)).mono ?_
                rintro e wI ⟨rfl, hO⟩
                rw [if_neg (by omega)]
                have HO6 := Aside0.mk hO
                clear hO HO4
                obtain ⟨A9', c9', e9, _, C9'⟩ := HO6.out.row
                simp only [Value.slice.injEq, true_and] at e9
                obtain ⟨rfl, rfl⟩ := e9
                have HC96 := Aside0.mk C9'
                clear C9'
                cases hhs : hasN ns a2 with
                | true =>
                  obtain ⟨jj, hjj, hj2⟩ := hf1 hhs
                  subst hjj
                  have hnj : n = jj := by
                    have h2 := hg1 hhs
                    have hlt2 : n < ns.length := (List.getElem?_eq_some_iff.1 h2).1
                    exact (List.getElem?_inj hlt2 HND.out.1).1 (h2.trans hj2.symm)
                  subst hnj
                  have hge : decide ((n : Int) ≥ 0) = true := by simp
                  have hnn : ((n : Int) == (n : Int)) = true := beq_self_eq_true _
                  clear hhs hf1 hf2 hg1 hg2 hj2
                  go_wp2_with fail
                  refine (one_sorted HO6.out).mono ?_
                  rintro e wJ ⟨Ax, cx, rfl, hlx, hCx, hO, hbJ⟩
                  have HCx := Aside0.mk hCx
                  have HO7 := Aside0.mk hO
                  have HC97 := Aside0.mk (Kd.C_below HC96.out hbJ)
                  clear hCx hO hbJ HO6 HC96
                  go_wp2_with fail
                  refine (refsorted_ask A9 c9 ns wJ HC97.out l9 HND.out.2).mono ?_
                  rintro e wK ⟨v, rfl, hR, hbK⟩
                  obtain ⟨Ay, cy, rfl, hly, hCy⟩ := Kd.R_reads hR
                  have HCy := Aside0.mk hCy
                  have HCx2 := Aside0.mk (Kd.C_below HCx.out hbK)
                  have HO8 := Aside0.mk (HO7.out.below hbK)
                  obtain ⟨kk, hkk⟩ := same_ask (srt ns) (by rw [srt_length]; exact HND.out.2)
                  have HKK := Aside0.mk hkk
                  clear hR hCy hbK hkk HO7 HCx HC97
                  go_wp2_with fail
                  refine (pendulumref03_Same.calls kk Ax cx (srt ns) Ay cy (srt ns) true wK HCx2.out hlx HCy.out hly HKK.out).mono ?_
                  rintro e wL ⟨rfl, hdw⟩
                  have HBf := Aside0.mk (below_step HO8.out.out_below hdw.below)
                  clear hdw
                  go_wp2_with fail
                  go_ret
                  exact ⟨rfl, HBf.out⟩
                | false =>
                  have hrr := hf2 hhs
                  subst hrr
                  have hn0 := hg2 hhs
                  subst hn0
                  clear hhs hf1 hf2 hg1 hg2
                  go_wp2_with fail
                  refine (one_sorted HO6.out).mono ?_
                  rintro e wJ ⟨Ax, cx, rfl, hlx, hCx, hO, hbJ⟩
                  have HCx := Aside0.mk hCx
                  have HO7 := Aside0.mk hO
                  have HC97 := Aside0.mk (Kd.C_below HC96.out hbJ)
                  clear hCx hO hbJ HO6 HC96
                  go_wp2_with fail
                  refine (refsorted_ask A9 c9 ns wJ HC97.out l9 HND.out.2).mono ?_
                  rintro e wK ⟨v, rfl, hR, hbK⟩
                  obtain ⟨Ay, cy, rfl, hly, hCy⟩ := Kd.R_reads hR
                  have HCy := Aside0.mk hCy
                  have HCx2 := Aside0.mk (Kd.C_below HCx.out hbK)
                  have HO8 := Aside0.mk (HO7.out.below hbK)
                  obtain ⟨kk, hkk⟩ := same_ask (srt ns) (by rw [srt_length]; exact HND.out.2)
                  have HKK := Aside0.mk hkk
                  clear hR hCy hbK hkk HO7 HCx HC97
                  go_wp2_with fail
                  refine (pendulumref03_Same.calls kk Ax cx (srt ns) Ay cy (srt ns) true wK HCx2.out hlx HCy.out hly HKK.out).mono ?_
                  rintro e wL ⟨rfl, hdw⟩
                  have HBf := Aside0.mk (below_step HO8.out.out_below hdw.below)
                  clear hdw
                  go_wp2_with fail
                  go_ret
                  exact ⟨rfl, HBf.out⟩
end Go.Proofs.YtncmfomhigielaaDoor.Q
