-- IndexOrders: walked by hand.
-- HAND pendulum/pendulumlaw03.IndexOrders rounds=0 making=1
-- NEEDS pendulum/pendulumref03.Find pendulum/pendulumref03.Same pendulum/pendulumlaw03.few pendulum/pendulumref03.Named
import Derived.Test.YtncmfomhigielaaDoorQ0
import Derived.Test.YtncmfomhigielaaDoorQ0
import Derived.Test.YtncmfomhigielaaDoorQ3
import Derived.Test.YtncmfomhigielaaDoorQ4
import Derived.Test.YtncmfomhigielaaDoorHidxC
import Derived.Test.YtncmfomhigielaaDoorHidxS
import Derived.Test.YtncmfomhigielaaDoorHidxW
import Derived.Test.YtncmfomhigielaaDoorHnamed
import Derived.Test.YtncmfomhigielaaDoorLidxM
import Derived.Test.YtncmfomhigielaaDoorLidxN
import Derived.Test.YtncmfomhigielaaDoorLidxS
import Derived.Test.YtncmfomhigielaaDoorHidxW
import Derived.Test.YtncmfomhigielaaDoorLidxS
import Derived.Deep.RegionHeld3
namespace Go.Proofs.YtncmfomhigielaaDoor.Q
open Go.RowKit Go.Proofs.YtncmfomhigielaaDoorW.PrintWords Go.Proofs.YtncmfomhigielaaDoorW.PrintLast Go.Proofs.YtncmfomhigielaaDoorW.PrintMore
attribute [local go_sem] max2_int min2_int max_two min_two max_three min_three max_four min_four   -- for this text's walks alone
set_option linter.unusedVariables false
set_option linter.unusedSimpArgs false

def pendulumlaw03_IndexOrders.f : Option Bool := some true
def pendulumlaw03_IndexOrders.Pure : Prop := True
/-! The plain part. -/
def into (l : List ByteArray) : List ByteArray := l.foldl (fun ns x => putI ns 256 x) []
theorem into_snoc (l : List ByteArray) (x : ByteArray) : into (l ++ [x]) = putI (into l) 256 x := by simp [into, List.foldl_append]
theorem into_take (L : List ByteArray) : ∀ i : Nat, i ≤ L.length → (L.take i).countP named < 256 → (into (L.take i)).length ≤ (L.take i).countP named ∧ ∀ x, x ∈ into (L.take i) ↔ (x ∈ L.take i ∧ named x = true)
  | 0, _, _ => by simp [into]
  | i + 1, hi, hc => by
    rw [List.take_succ_eq_append_getElem hi] at hc ⊢
    rw [List.countP_append] at hc ⊢
    obtain ⟨h1, h2⟩ := into_take L i (by omega) (by omega)
    obtain ⟨y, hy⟩ : ∃ y, L[i] = y := ⟨_, rfl⟩
    rw [hy] at hc ⊢
    rw [into_snoc]
    unfold putI
    cases hn : named y with
    | false =>
      rw [if_pos rfl, List.countP_singleton, hn]
      refine ⟨by simpa using h1, fun x => ?_⟩
      rw [h2, List.mem_append, List.mem_singleton]
      constructor
      · rintro ⟨a, b⟩; exact ⟨.inl a, b⟩
      · rintro ⟨a | a, b⟩
        · exact ⟨a, b⟩
        · rw [a, hn] at b; exact absurd b (by decide)
    | true =>
      rw [if_neg (by decide), List.countP_singleton, hn]
      rw [List.countP_singleton, hn] at hc
      simp only [if_true] at hc ⊢
      cases hh : hasN (into (L.take i)) y with
      | true =>
        rw [if_pos rfl]
        refine ⟨by omega, fun x => ?_⟩
        rw [h2, List.mem_append, List.mem_singleton]
        constructor
        · rintro ⟨a, b⟩; exact ⟨.inl a, b⟩
        · rintro ⟨a | a, b⟩
          · exact ⟨a, b⟩
          · rw [a]; exact (h2 y).1 ((hasN_iff _ _).1 hh)
      | false =>
        rw [if_neg (by decide), if_neg (by omega)]
        refine ⟨by simp; omega, fun x => ?_⟩
        rw [List.mem_append, List.mem_append, h2, List.mem_singleton]
        constructor
        · rintro (⟨a, b⟩ | a)
          · exact ⟨.inl a, b⟩
          · rw [a]; exact ⟨.inr rfl, hn⟩
        · rintro ⟨a | a, b⟩
          · exact .inl ⟨a, b⟩
          · exact .inr a
theorem rot_at (l : List ByteArray) (k i p : Nat) (hk : k < l.length) (hi : i < l.length) (hp : ((i : Int) + (k : Int)) % (l.length : Int) = (p : Int)) : (l.drop k ++ l.take k)[i]? = l[p]? := by
  by_cases h : i < l.length - k
  · rw [List.getElem?_append_left (by rw [List.length_drop]; exact h), List.getElem?_drop]
    rw [Int.emod_eq_of_lt (by omega) (by omega)] at hp
    congr 1; omega
  · rw [List.getElem?_append_right (by rw [List.length_drop]; omega), List.length_drop, List.getElem?_take, if_pos (by omega)]
    have : ((i : Int) + (k : Int)) % (l.length : Int) = (i : Int) + k - l.length := by
      rw [← Int.sub_emod_right, Int.emod_eq_of_lt (by omega) (by omega)]
    congr 1; omega
theorem rot_perm (l : List ByteArray) (k : Nat) : (l.drop k ++ l.take k).Perm l := by
  have h := List.perm_append_comm (l₁ := l.drop k) (l₂ := l.take k)
  rwa [List.take_append_drop] at h
theorem countP_take_le (p : ByteArray → Bool) (l : List ByteArray) (i : Nat) : (l.take i).countP p ≤ l.countP p := (List.take_sublist i l).countP_le
/-- Two indexes in memory, apart. -/
def Two (w wr : World) (gx gy : Nat) (nx ny : List ByteArray) : Prop := ∃ Sx Sy : Nat → Prop, IdxAt Sx wr gx nx 256 ∧ IdxAt Sy wr gy ny 256 ∧ (∀ k, Sx k → ¬ Sy k) ∧ (∀ k, Sx k → w.heap.size ≤ k) ∧ (∀ k, Sy k → w.heap.size ≤ k) ∧ Below w.heap.size w wr
theorem Two.swap {w wr : World} {gx gy : Nat} {nx ny : List ByteArray} (h : Two w wr gx gy nx ny) : Two w wr gy gx ny nx := by
  obtain ⟨Sx, Sy, h1, h2, h3, h4, h5, h6⟩ := h
  exact ⟨Sy, Sx, h2, h1, fun k a b => h3 k b a, h5, h4, h6⟩
theorem Two.below {w wr wr1 : World} {gx gy : Nat} {nx ny : List ByteArray} (h : Two w wr gx gy nx ny) (hb : Below wr.heap.size wr wr1) : Two w wr1 gx gy nx ny := by
  obtain ⟨Sx, Sy, h1, h2, h3, h4, h5, h6⟩ := h
  exact ⟨Sx, Sy, h1.below hb, h2.below hb, h3, h4, h5, below_step h6 hb⟩
theorem two_put {w wr : World} {gx gy : Nat} {nx ny : List ByteArray} (h : Two w wr gx gy nx ny) (hns : nx.length < 1000000) (x : ByteArray) :
    Calls Tryd.prog 13 #[.pointer (some ⟨gx, 0, none⟩), .string x] wr fun e W' => e = .returned (.tuple #[.int .i64 (putN nx 256 x), .int .i64 (putE nx 256 x)]) ∧ Two w W' gx gy (putI nx 256 x) ny := by
  obtain ⟨Sx, Sy, h1, h2, h3, h4, h5, h6⟩ := h
  have hs := h6.size
  refine (put_ask h1 hns x).mono fun e W' ⟨he, hI, hk, h0⟩ => ⟨he, (fun k => Sx k ∨ wr.heap.size ≤ k), (fun k => Sy k ∧ k < wr.heap.size), hI, h2.bound.kept hk (fun k a b => h3 k b a.1), fun k a b => ?_, fun k a => ?_, fun k a => h5 k a.1, below_put h6 hk h0 h4⟩
  · rcases a with a | a
    · exact h3 k a b.1
    · have := b.2; omega
  · rcases a with a | a
    · exact h4 k a
    · exact Nat.le_trans hs a
theorem two_find {w wr : World} {gx gy : Nat} {nx ny : List ByteArray} (h : Two w wr gx gy nx ny) (x : ByteArray) :
    Calls Tryd.prog 16 #[.pointer (some ⟨gx, 0, none⟩), .string x] wr fun e W' => ∃ n : Nat, e = .returned (.tuple #[.int .i64 n, .bool (hasN nx x)]) ∧ Two w W' gx gy nx ny := by
  obtain ⟨Sx, Sy, h1, h2, h3, h4, h5, h6⟩ := h
  refine (find_ask h1 x).mono fun e W' ⟨n, he, _, _, hb⟩ => ⟨n, he, Two.below ⟨Sx, Sy, h1, h2, h3, h4, h5, h6⟩ hb⟩
theorem two_sorted {w wr : World} {gx gy : Nat} {nx ny : List ByteArray} (h : Two w wr gx gy nx ny) :
    Calls Tryd.prog 14 #[.pointer (some ⟨gx, 0, none⟩)] wr fun e W' => ∃ (A : Option Addr) (c : Nat), e = .returned (.slice A (srt nx).length c) ∧ (srt nx).length ≤ c ∧ Kd.C Kd.string W' A (srt nx).length (srt nx) ∧ Two w W' gx gy nx ny ∧ Below wr.heap.size wr W' := by
  obtain ⟨Sx, Sy, h1, h2, h3, h4, h5, h6⟩ := h
  refine (sorted_ask h1).mono ?_
  rintro e W' ⟨v, he, hR, hb⟩
  obtain ⟨A, c, rfl, hl, hC⟩ := Kd.R_reads hR
  exact ⟨A, c, he, hl, hC, Two.below ⟨Sx, Sy, h1, h2, h3, h4, h5, h6⟩ hb, hb⟩
theorem hasN_named {ns l : List ByteArray} (h : ∀ x, x ∈ ns ↔ (x ∈ l ∧ named x = true)) {x : ByteArray} (hx : x ∈ l) : hasN ns x = named x := by
  rw [Bool.eq_iff_iff, hasN_iff, h]
  exact ⟨fun h => h.2, fun h => ⟨hx, h⟩⟩
theorem two_len {w wr : World} {gx gy : Nat} {nx ny : List ByteArray} (h : Two w wr gx gy nx ny) : nx.Nodup ∧ nx.length ≤ 1000000 ∧ ny.Nodup ∧ ny.length ≤ 1000000 := by
  obtain ⟨Sx, Sy, ⟨_, _, _, _, o1⟩, ⟨_, _, _, _, o2⟩, _⟩ := h
  exact ⟨o1.2.2.1, o1.2.2.2, o2.2.2.1, o2.2.2.2⟩
theorem putI_le2 (ns : List ByteArray) (room : Int) (x : ByteArray) : (putI ns room x).length ≤ ns.length + 1 := by
  unfold putI
  split
  · omega
  · split
    · omega
    · split
      · omega
      · simp
set_option maxHeartbeats 4000000 in
set_option maxRecDepth 100000 in
theorem pendulumlaw03_IndexOrders.walk (P : pendulumlaw03_IndexOrders.Pure) (a0 : Option Addr) (cap0 : Nat) (l0 : List ByteArray) (a1 : Int) (w : World) (hr0 : Kd.C Kd.string w a0 l0.length l0) (hc0 : l0.length ≤ cap0) (w1 : (Lit.int .u8 a1).wf = true) :
    Calls Tryd.prog 5 #[.slice a0 l0.length cap0, .int .u8 a1] w fun e w' => e = .returned (.bool true) ∧ Below w.heap.size w w' := by
  obtain ⟨b0, b1⟩ := Go.bounds_u8 w1
  have HR0 := Aside0.mk hr0
  clear hr0 w1
  obtain ⟨kf, rf, hf, hfl⟩ := few_ask l0
  have HF := Aside0.mk hf
  clear hf
  go_enter Tryd.func5, Tryd.ntmps5
  go_wp2_with fail
  refine (pendulumlaw03_awake.calls true _ rfl).mono ?_
  rintro e wA ⟨rfl, hb⟩
  have HB := Aside0.mk hb
  clear hb
  go_wp2_with fail
  refine (pendulumlaw03_few.calls kf a0 cap0 l0 rf wA (Kd.C_below HR0.out HB.out) hc0 HF.out).mono ?_
  rintro e wB ⟨rfl, hd⟩
  have HBB := Aside0.mk (below_step HB.out hd.below)
  clear hd HB
  cases rf with
  | false =>
    clear hfl
    go_wp2_with fail
    refine (pendulumlaw03_awake.calls true _ rfl).mono ?_
    rintro e wC ⟨rfl, hb⟩
    have HB2 := Aside0.mk (below_step HBB.out hb)
    clear hb HBB
    go_wp2_with fail
    go_ret
    exact ⟨rfl, HB2.out⟩
  | true =>
    have hl3 := hfl rfl
    clear hfl
    by_cases hz : l0.length = 0
    · have hz2 : (((l0.length : Nat) : Int) == 0) = true := beq_iff_eq.2 (by omega)
      have HZ := Aside0.mk hz
      clear hz
      go_wp2_with fail
      refine (pendulumlaw03_awake.calls true _ rfl).mono ?_
      rintro e wC ⟨rfl, hb⟩
      have HB2 := Aside0.mk (below_step HBB.out hb)
      clear hb HBB
      go_wp2_with fail
      go_ret
      exact ⟨rfl, HB2.out⟩
    · have hz2 : (((l0.length : Nat) : Int) == 0) = false := beq_eq_false_iff_ne.2 (by omega)
      go_wp2_with fail
      refine (new_ask 256 (by omega) (by omega) wB).mono ?_
      rintro e wC ⟨rfl, hI, hb⟩
      obtain ⟨gx, hgx⟩ : ∃ gx, wB.heap.size = gx := ⟨_, rfl⟩
      have HI := Aside0.mk hI
      have HBC := Aside0.mk (below_step HBB.out hb)
      have HWB : Aside0 (w.heap.size ≤ wB.heap.size) := ⟨HBB.out.size⟩
      have HWC : Aside0 (wB.heap.size ≤ wC.heap.size) := ⟨hb.size⟩
      rw [hgx] at HI ⊢
      have HGX := Aside0.mk hgx
      clear hI hb hgx HBB
      go_wp2_with fail
      refine (new_ask 256 (by omega) (by omega) wC).mono ?_
      rintro e wD ⟨rfl, hI, hb⟩
      obtain ⟨gy, hgy⟩ : ∃ gy, wC.heap.size = gy := ⟨_, rfl⟩
      have HT : Aside0 (Two w wD gx gy [] []) := ⟨by
        refine ⟨_, _, HI.out.bound.below hb, by rw [← hgy]; exact hI, fun k a b => ?_, fun k a => ?_, fun k a => ?_, below_step HBC.out hb⟩
        · have := a.2; omega
        · have := a.1; have := HGX.out; have := HWB.out; omega
        · have := HWB.out; have := HWC.out; omega⟩
      have HBD := Aside0.mk (below_step HBC.out hb)
      rw [hgy]
      clear hI hb hgy HI HBC HWB HWC HGX
      obtain ⟨kq, hkq⟩ : ∃ kq : Nat, a1 % (l0.length : Int) = (kq : Int) := ⟨(a1 % (l0.length : Int)).toNat, by have := Int.emod_nonneg a1 (show (l0.length : Int) ≠ 0 by omega); omega⟩
      have hkl : kq < l0.length := by have := Int.emod_lt_of_pos a1 (show (0 : Int) < (l0.length : Int) by omega); omega
      have hk0 : 0 ≤ a1 % (l0.length : Int) := by omega
      have HZ := Aside0.mk hz
      clear hz
      go_wp2_with fail
      (try rw [hkq])
      clear hkq hk0
      go_loopg [10, 11] l0.length (fun kk v10 v11 wr => ∃ i n : Nat, v11 = .int .i64 i ∧ v10 = .int .i64 n ∧ i + kk = l0.length ∧ n ≤ 256 ∧ Aside0 (n = (l0.take i).countP named) ∧ Aside0 (Below wD.heap.size wD wr))
      case atStart => exact ⟨0, 0, rfl, rfl, by omega, by omega, ⟨rfl⟩, ⟨Below.refl _ _⟩⟩
      case round =>
        obtain ⟨i, n, rfl, rfl, hik, hn6, HN, HBL⟩ := hrel
        by_cases hlt : i < l0.length ∧ n < 256
        · obtain ⟨hlt, hn⟩ := hlt
          have hd : decide ((i : Int) < (l0.length : Int)) = true := by simp; omega
          have hd2 : decide ((n : Int) < 256) = true := by simp; omega
          obtain ⟨ad, e, hx⟩ := Kd.at_string HR0.out (i : Int) (by omega) (by omega)
          cases e
          replace hx := pw_cell_below (below_step HBD.out HBL.out) hx
          simp only [Int.toNat_natCast] at hx
          have HTK : Aside0 ((l0.take (i + 1)).countP named = (l0.take i).countP named + (if named (rdOf ByteArray.empty l0 (i : Int)) = true then 1 else 0)) := ⟨by
            rw [List.take_succ_eq_append_getElem hlt, List.countP_append, List.countP_singleton]
            simp [rdOf, List.getD_eq_getElem?_getD, List.getElem?_eq_getElem hlt]⟩
          obtain ⟨x, hxx⟩ : ∃ x, rdOf ByteArray.empty l0 (i : Int) = x := ⟨_, rfl⟩
          rw [hxx] at hx HTK
          have p0 : (0 : Int) ≤ i := by omega
          have p1 : (i : Int) < (l0.length : Int) := by omega
          clear hxx
          go_wp2_with fail
          refine (pendulumref03_Named.calls 20 x (named x) _ (ref_named x 20 (Nat.le_refl _))).mono ?_
          rintro e wE ⟨rfl, hdw⟩
          have HBL2 := Aside0.mk (below_step HBL.out hdw.below)
          clear hdw HBL hx
          cases hnm : named x with
          | true =>
            have HT1 : Aside0 ((l0.take (i + 1)).countP named = (l0.take i).countP named + 1) := ⟨by rw [HTK.out, hnm]; rfl⟩
            clear hnm
            go_wp2_with fail
            go_roundg (l0.length - (i + 1))
            case measure => omega
            case rel => exact ⟨i + 1, n + 1, by first | rfl | simp, by first | rfl | simp, by omega, by omega, ⟨by rw [HT1.out, HN.out]⟩, HBL2⟩
          | false =>
            have HT1 : Aside0 ((l0.take (i + 1)).countP named = (l0.take i).countP named) := ⟨by rw [HTK.out, hnm]; rfl⟩
            clear hnm
            go_wp2_with fail
            go_roundg (l0.length - (i + 1))
            case measure => omega
            case rel => exact ⟨i + 1, n, by first | rfl | simp, by first | rfl | simp, by omega, by omega, ⟨by rw [HT1.out, HN.out]⟩, HBL2⟩
        · by_cases hn : n = 256
          · have hd2 : decide ((n : Int) < 256) = false := by simp; omega
            have hne : ((n : Int) == 256) = true := beq_iff_eq.2 (by omega)
            have HNN := Aside0.mk hn
            clear hn hlt
            have HBZ := Aside0.mk (below_step HBD.out HBL.out)
            by_cases hlt : i < l0.length
            · have hd : decide ((i : Int) < (l0.length : Int)) = true := by simp; omega
              go_wp2_with fail
              go_ret
              exact ⟨rfl, HBZ.out⟩
            · have hd : decide ((i : Int) < (l0.length : Int)) = false := by simp; omega
              go_wp2_with fail
              go_ret
              exact ⟨rfl, HBZ.out⟩
          · have hil : i = l0.length := by omega
            have hlt2 : ¬ i < l0.length := by omega
            have hd : decide ((i : Int) < (l0.length : Int)) = false := by simp; omega
            have hne : ((n : Int) == 256) = false := beq_eq_false_iff_ne.2 (by omega)
            have HCN : Aside0 (l0.countP named < 256) := ⟨by have := HN.out; rw [hil, List.take_length] at this; omega⟩
            have HT2 := Aside0.mk (HT.out.below HBL.out)
            clear HT HBL HBD hil hn hlt HN
            go_wp2_with fail
            have HRL : Aside0 ((l0.drop kq ++ l0.take kq).length = l0.length) := ⟨(rot_perm l0 kq).length_eq⟩
            go_loopg [12] l0.length (fun kk v12 wr => ∃ i : Nat, v12 = .int .i64 i ∧ i + kk = l0.length ∧ Aside0 (Two w wr gx gy (into (l0.take i)) (into ((l0.drop kq ++ l0.take kq).take i))))
            case atStart => exact ⟨0, rfl, by omega, HT2⟩
            case round =>
              clear HT2
              obtain ⟨i, rfl, hik, HT⟩ := hrel
              by_cases hlt : i < l0.length
              · have hd : decide ((i : Int) < (l0.length : Int)) = true := by simp; omega
                have HBL : Aside0 (Below w.heap.size w wr) := ⟨by obtain ⟨_, _, _, _, _, _, _, h⟩ := HT.out; exact h⟩
                obtain ⟨ad, e, hx⟩ := Kd.at_string HR0.out (i : Int) (by omega) (by omega)
                cases e
                replace hx := pw_cell_below HBL.out hx
                simp only [Int.toNat_natCast] at hx
                have HT1 : Aside0 (into (l0.take (i + 1)) = putI (into (l0.take i)) 256 (rdOf ByteArray.empty l0 (i : Int))) := ⟨by
                  rw [List.take_succ_eq_append_getElem hlt, into_snoc]
                  simp [rdOf, List.getD_eq_getElem?_getD, List.getElem?_eq_getElem hlt]⟩
                obtain ⟨x, hxx⟩ : ∃ x, rdOf ByteArray.empty l0 (i : Int) = x := ⟨_, rfl⟩
                rw [hxx] at hx HT1
                have p0 : (0 : Int) ≤ i := by omega
                have p1 : (i : Int) < (l0.length : Int) := by omega
                clear hxx
                go_wp2_with fail
                refine (two_put HT.out (by have := (two_len HT.out).2.1; have h2 := (into_take l0 i (by omega) (Nat.lt_of_le_of_lt (countP_take_le named l0 i) HCN.out)).1; have := countP_take_le named l0 i; have := HCN.out; omega) x).mono ?_
                rintro e wE ⟨rfl, hT⟩
                rw [← HT1.out] at hT
                have HT3 := Aside0.mk hT
                obtain ⟨pp, hpp⟩ : ∃ pp : Nat, ((i : Int) + (kq : Int)) % (l0.length : Int) = (pp : Int) := ⟨(((i : Int) + (kq : Int)) % (l0.length : Int)).toNat, by have := Int.emod_nonneg ((i : Int) + (kq : Int)) (show (l0.length : Int) ≠ 0 by omega); omega⟩
                have hpl : pp < l0.length := by have := Int.emod_lt_of_pos ((i : Int) + (kq : Int)) (show (0 : Int) < (l0.length : Int) by omega); omega
                have hpp0 : 0 ≤ ((i : Int) + (kq : Int)) % (l0.length : Int) := by omega
                have HBL2 : Aside0 (Below w.heap.size w wE) := ⟨by obtain ⟨_, _, _, _, _, _, _, h⟩ := hT; exact h⟩
                obtain ⟨ad2, e, hy⟩ := Kd.at_string HR0.out (pp : Int) (by omega) (by omega)
                cases e
                replace hy := pw_cell_below HBL2.out hy
                simp only [Int.toNat_natCast] at hy
                have HT4 : Aside0 (into ((l0.drop kq ++ l0.take kq).take (i + 1)) = putI (into ((l0.drop kq ++ l0.take kq).take i)) 256 (rdOf ByteArray.empty l0 (pp : Int))) := ⟨by
                  have hr := rot_at l0 kq i pp hkl hlt hpp
                  have hi2 : i < (l0.drop kq ++ l0.take kq).length := by rw [HRL.out]; exact hlt
                  rw [List.take_succ_eq_append_getElem hi2, into_snoc]
                  congr 1
                  rw [List.getElem?_eq_getElem hi2, List.getElem?_eq_getElem hpl] at hr
                  rw [Option.some.inj hr]
                  simp [rdOf, List.getD_eq_getElem?_getD, List.getElem?_eq_getElem hpl]⟩
                obtain ⟨y, hyy⟩ : ∃ y, rdOf ByteArray.empty l0 (pp : Int) = y := ⟨_, rfl⟩
                rw [hyy] at hy HT4
                have q0 : (0 : Int) ≤ pp := by omega
                have q1 : (pp : Int) < (l0.length : Int) := by omega
                have hnz : ((l0.length : Int) == 0) = false := beq_eq_false_iff_ne.2 (by omega)
                clear hyy hx hT HT
                go_wp2_with fail
                refine (two_put HT3.out.swap (by have h2 := (into_take (l0.drop kq ++ l0.take kq) i (by rw [HRL.out]; omega) (Nat.lt_of_le_of_lt (countP_take_le named _ i) (by rw [(rot_perm l0 kq).countP_eq]; exact HCN.out))).1; have h3 := countP_take_le named (l0.drop kq ++ l0.take kq) i; rw [(rot_perm l0 kq).countP_eq] at h3; have := HCN.out; omega) y).mono ?_
                rintro e wF ⟨rfl, hT⟩
                rw [← HT4.out] at hT
                have HT5 := Aside0.mk hT.swap
                clear hT HT3 hy hpp hpp0
                go_wp2_with fail
                go_roundg (l0.length - (i + 1))
                case measure => omega
                case rel => exact ⟨i + 1, by first | rfl | simp, by omega, HT5⟩
              · have hd : decide ((i : Int) < (l0.length : Int)) = false := by simp; omega
                have hil : i = l0.length := by omega
                have hix := (into_take l0 l0.length (Nat.le_refl _) (by rw [List.take_length]; exact HCN.out)).2
                have hiy := (into_take (l0.drop kq ++ l0.take kq) l0.length (by rw [HRL.out]; exact Nat.le_refl _) (Nat.lt_of_le_of_lt (countP_take_le named _ _) (by rw [(rot_perm l0 kq).countP_eq]; exact HCN.out))).2
                have hrt : (l0.drop kq ++ l0.take kq).take l0.length = l0.drop kq ++ l0.take kq := List.take_of_length_le (by rw [HRL.out]; exact Nat.le_refl _)
                have hT := HT.out
                rw [hil, hrt, List.take_length] at hT
                rw [hrt] at hiy
                rw [List.take_length] at hix
                have hiy2 : ∀ x, x ∈ into (l0.drop kq ++ l0.take kq) ↔ (x ∈ l0 ∧ named x = true) := fun x => by rw [hiy, (rot_perm l0 kq).mem_iff]
                have HMX : Aside0 (∀ x, x ∈ l0 → hasN (into l0) x = named x) := ⟨fun x hx => hasN_named hix hx⟩
                have HMY : Aside0 (∀ x, x ∈ l0 → hasN (into (l0.drop kq ++ l0.take kq)) x = named x) := ⟨fun x hx => hasN_named hiy2 hx⟩
                obtain ⟨hd1, _, hd2, _⟩ := two_len hT
                have HSE : Aside0 (srt (into l0) = srt (into (l0.drop kq ++ l0.take kq))) := ⟨by
                  have hp : (into l0).Perm (into (l0.drop kq ++ l0.take kq)) := (List.perm_ext_iff_of_nodup hd1 hd2).2 (fun x => by rw [hix, hiy2])
                  exact up_perm_eq _ _ (srt_up _) (srt_up _) ((srt_perm _).trans (hp.trans (srt_perm _).symm))⟩
                have HSL : Aside0 ((srt (into l0)).length ≤ 1000000) := ⟨by rw [srt_length]; exact (two_len hT).2.1⟩
                obtain ⟨nx, hnx⟩ : ∃ nx, into l0 = nx := ⟨_, rfl⟩
                obtain ⟨ny, hny⟩ : ∃ ny, into (l0.drop kq ++ l0.take kq) = ny := ⟨_, rfl⟩
                rw [hnx, hny] at hT
                rw [hnx] at HMX HSE HSL
                rw [hny] at HMY HSE
                have HT := Aside0.mk hT
                clear hix hiy hrt hiy2 hd1 hd2 hnx hny hT hil HCN HRL
                go_wp2_with fail
                go_loopg [13] l0.length (fun kk v13 wr => ∃ i : Nat, v13 = .int .i64 i ∧ i + kk = l0.length ∧ Aside0 (Two w wr gx gy nx ny))
                case atStart => exact ⟨0, rfl, by omega, HT⟩
                case round =>
                  clear HT
                  obtain ⟨i, rfl, hik, HT⟩ := hrel
                  by_cases hlt : i < l0.length
                  · have hd : decide ((i : Int) < (l0.length : Int)) = true := by simp; omega
                    have HBL : Aside0 (Below w.heap.size w wr) := ⟨by obtain ⟨_, _, _, _, _, _, _, h⟩ := HT.out; exact h⟩
                    obtain ⟨ad, e, hx0⟩ := Kd.at_string HR0.out (i : Int) (by omega) (by omega)
                    cases e
                    have hx := pw_cell_below HBL.out hx0
                    simp only [Int.toNat_natCast] at hx
                    have hmem : rdOf ByteArray.empty l0 (i : Int) ∈ l0 := by
                      simp only [rdOf, Int.toNat_natCast, List.getD_eq_getElem?_getD, List.getElem?_eq_getElem hlt, Option.getD_some]
                      exact List.getElem_mem hlt
                    have h1 := HMX.out _ hmem
                    have h2 := HMY.out _ hmem
                    obtain ⟨x, hxx⟩ : ∃ x, rdOf ByteArray.empty l0 (i : Int) = x := ⟨_, rfl⟩
                    rw [hxx] at hx h1 h2 hx0
                    have H1 := Aside0.mk h1
                    have H2 := Aside0.mk h2
                    have HX0 := Aside0.mk hx0
                    have p0 : (0 : Int) ≤ i := by omega
                    have p1 : (i : Int) < (l0.length : Int) := by omega
                    clear hxx h1 h2 hmem hx0
                    go_wp2_with fail
                    refine (two_find HT.out x).mono ?_
                    rintro e wE ⟨n1, rfl, hT⟩
                    rw [H1.out]
                    have HT3 := Aside0.mk hT
                    have HBL2 : Aside0 (Below w.heap.size w wE) := ⟨by obtain ⟨_, _, _, _, _, _, _, h⟩ := hT; exact h⟩
                    have hx := pw_cell_below HBL2.out HX0.out
                    simp only [Int.toNat_natCast] at hx
                    clear hT HT
                    go_wp2_with fail
                    refine (two_find HT3.out.swap x).mono ?_
                    rintro e wF ⟨n2, rfl, hT⟩
                    rw [H2.out]
                    have HT4 := Aside0.mk hT.swap
                    have HBL3 : Aside0 (Below w.heap.size w wF) := ⟨by obtain ⟨_, _, _, _, _, _, _, h⟩ := hT; exact h⟩
                    have hx := pw_cell_below HBL3.out HX0.out
                    simp only [Int.toNat_natCast] at hx
                    clear hT HT3
                    obtain ⟨bn, hbn⟩ : ∃ bn, named x = bn := ⟨_, rfl⟩
                    have HBN := Aside0.mk hbn
                    rw [hbn]
                    clear hbn H1 H2
                    have hbb : (bn == bn) = true := beq_self_eq_true _
                    go_wp2_with fail
                    refine (pendulumref03_Named.calls 20 x bn _ (by rw [ref_named x 20 (Nat.le_refl _), HBN.out])).mono ?_
                    rintro e wG ⟨rfl, hdw⟩
                    have HT5 := Aside0.mk (HT4.out.below hdw.below)
                    clear hdw HT4 hx
                    go_wp2_with fail
                    go_roundg (l0.length - (i + 1))
                    case measure => omega
                    case rel => exact ⟨i + 1, by first | rfl | simp, by omega, HT5⟩
                  · have hd : decide ((i : Int) < (l0.length : Int)) = false := by simp; omega
                    go_wp2_with fail
                    refine (two_sorted HT.out).mono ?_
                    rintro e wE ⟨Ax, cx, rfl, hlx, hCx, hT, _⟩
                    have HCx := Aside0.mk hCx
                    have HT3 := Aside0.mk hT
                    clear hCx hT HT
                    go_wp2_with fail
                    refine (two_sorted HT3.out.swap).mono ?_
                    rintro e wF ⟨Ay, cy, rfl, hly, hCy, hT, hbF⟩
                    have HCy := Aside0.mk hCy
                    have HCx2 := Aside0.mk (Kd.C_below HCx.out hbF)
                    have HBL3 : Aside0 (Below w.heap.size w wF) := ⟨by obtain ⟨_, _, _, _, _, _, _, h⟩ := hT; exact h⟩
                    obtain ⟨kk, hkk⟩ := same_ask (srt nx) HSL.out
                    have HKK := Aside0.mk hkk
                    rw [← HSE.out] at HCy hly ⊢
                    clear hCy hT HT3 hbF hkk HCx
                    go_wp2_with fail
                    refine (pendulumref03_Same.calls kk Ax cx (srt nx) Ay cy (srt nx) true wF HCx2.out hlx HCy.out hly HKK.out).mono ?_
                    rintro e wG ⟨rfl, hdw⟩
                    have HBf := Aside0.mk (below_step HBL3.out hdw.below)
                    clear hdw
                    go_wp2_with fail
                    go_ret
                    exact ⟨rfl, HBf.out⟩
end Go.Proofs.YtncmfomhigielaaDoor.Q
