-- IndexKeeps: walked by hand.
-- HAND pendulum/pendulumlaw03.IndexKeeps rounds=0 making=1
-- NEEDS pendulum/pendulumref03.Find pendulum/pendulumref03.Same pendulum/pendulumlaw03.few pendulum/pendulumref03.Named
import Derived.Test.YtncmfomhigielaaDoorQ0
import Derived.Test.YtncmfomhigielaaDoorQ0
import Derived.Test.YtncmfomhigielaaDoorQ4
import Derived.Test.YtncmfomhigielaaDoorHidxC
import Derived.Test.YtncmfomhigielaaDoorHidxS
import Derived.Test.YtncmfomhigielaaDoorHidxW
import Derived.Test.YtncmfomhigielaaDoorLidxM
import Derived.Test.YtncmfomhigielaaDoorLidxS
import Derived.Test.YtncmfomhigielaaDoorHidxW
import Derived.Test.YtncmfomhigielaaDoorLidxS
import Derived.Deep.RegionHeld3
namespace Go.Proofs.YtncmfomhigielaaDoor.Q
open Go.RowKit Go.Proofs.YtncmfomhigielaaDoorW.PrintWords Go.Proofs.YtncmfomhigielaaDoorW.PrintLast Go.Proofs.YtncmfomhigielaaDoorW.PrintMore
attribute [local go_sem] max2_int min2_int max_two min_two max_three min_three max_four min_four   -- for this text's walks alone
set_option linter.unusedVariables false
set_option linter.unusedSimpArgs false

def pendulumlaw03_IndexKeeps.f : Option Bool := some true
def pendulumlaw03_IndexKeeps.Pure : Prop := True
theorem putI_le (ns : List ByteArray) (room : Int) (x : ByteArray) : (putI ns room x).length ≤ ns.length + 1 := by
  unfold putI
  split
  · omega
  · split
    · omega
    · split
      · omega
      · simp
set_option maxHeartbeats 4000000 in
set_option maxRecDepth 100000 in
theorem pendulumlaw03_IndexKeeps.walk (P : pendulumlaw03_IndexKeeps.Pure) (a0 : Option Addr) (cap0 : Nat) (l0 : List ByteArray) (w : World) (hr0 : Kd.C Kd.string w a0 l0.length l0) (hc0 : l0.length ≤ cap0) :
    Calls Tryd.prog 4 #[.slice a0 l0.length cap0] w fun e w' => e = .returned (.bool true) ∧ Below w.heap.size w w' := by
  have HR0 := Aside0.mk hr0
  clear hr0
  obtain ⟨kf, rf, hf, hfl⟩ := few_ask l0
  have HF := Aside0.mk hf
  clear hf
  go_enter Tryd.func4, Tryd.ntmps4
  go_wp2_with fail
  refine (pendulumlaw03_awake.calls true _ rfl).mono ?_
  rintro e wA ⟨rfl, hb⟩
  have HB := Aside0.mk hb
  clear hb
  go_wp2_with fail
  refine (pendulumlaw03_few.calls kf a0 cap0 l0 rf wA (Kd.C_below HR0.out HB.out) hc0 HF.out).mono ?_
  rintro e wB ⟨rfl, hd⟩
  have HBB := Aside0.mk (below_step HB.out hd.below)
  clear hd HB
  cases rf with
  | false =>
    clear hfl
    go_wp2_with fail
    refine (pendulumlaw03_awake.calls true _ rfl).mono ?_
    rintro e wC ⟨rfl, hb⟩
    have HB2 := Aside0.mk (below_step HBB.out hb)
    clear hb HBB
    go_wp2_with fail
    go_ret
    exact ⟨rfl, HB2.out⟩
  | true =>
    have hl3 := hfl rfl
    clear hfl
    go_wp2_with fail
    refine (new_ask 256 (by omega) (by omega) wB).mono ?_
    rintro e wC ⟨rfl, hI, hb⟩
    obtain ⟨gx, hgx⟩ : ∃ gx, wB.heap.size = gx := ⟨_, rfl⟩
    have HI := Aside0.mk (hI.mono (S' := fun k => w.heap.size ≤ k) (fun k hk => Nat.le_trans HBB.out.size hk))
    have HBC := Aside0.mk (below_step HBB.out hb)
    rw [hgx] at HI ⊢
    clear hI hb hgx HBB
    go_wp2_with fail
    go_loopg [5] l0.length (fun kq v5 wr => ∃ (i : Nat) (ns : List ByteArray), v5 = .int .i64 i ∧ i + kq = l0.length ∧ Aside0 (ns.length ≤ i) ∧ Aside0 (IdxAt (fun k => w.heap.size ≤ k) wr gx ns 256) ∧ Aside0 (Below w.heap.size w wr))
    case atStart => exact ⟨0, [], rfl, by omega, ⟨Nat.le_refl _⟩, HI, HBC⟩
    case round =>
      clear HI HBC
      obtain ⟨i, ns, rfl, hik, HNL, HI, HB⟩ := hrel
      by_cases hlt : i < l0.length
      · have hd : decide ((i : Int) < (l0.length : Int)) = true := by simp; omega
        obtain ⟨ad, e, hx⟩ := Kd.at_string HR0.out (i : Int) (by omega) (by omega)
        cases e
        replace hx := pw_cell_below HB.out hx
        simp only [Int.toNat_natCast] at hx
        obtain ⟨x, hxx⟩ : ∃ x, rdOf ByteArray.empty l0 (i : Int) = x := ⟨_, rfl⟩
        rw [hxx] at hx
        have p0 : (0 : Int) ≤ i := by omega
        have p1 : (i : Int) < (l0.length : Int) := by omega
        clear hxx
        go_wp2_with fail
        refine (put_more HI.out HB.out (Below.refl _ _) (by have := HNL.out; omega) x).mono ?_
        rintro e wD ⟨rfl, hI, hb⟩
        have HI2 := Aside0.mk hI
        have HB2 := Aside0.mk hb
        have HN2 : Aside0 ((putI ns 256 x).length ≤ i + 1) := ⟨Nat.le_trans (putI_le ns 256 x) (by have := HNL.out; omega)⟩
        clear hI hb HI HB HNL
        go_wp2_with fail
        go_roundg (l0.length - (i + 1))
        case measure => omega
        case rel => exact ⟨i + 1, _, by first | rfl | simp, by omega, HN2, HI2, HB2⟩
      · have hd : decide ((i : Int) < (l0.length : Int)) = false := by simp; omega
        have hnl : ns.length ≤ 300 := by have := HNL.out; omega
        go_wp2_with fail
        refine (sorted_ask HI.out).mono ?_
        rintro e wD ⟨va, rfl, hRa, hb⟩
        obtain ⟨wq, hwq⟩ : ∃ wq, wq = wr := ⟨_, rfl⟩
        subst hwq
        have hxl : (srt ns).length ≤ 300 := by rw [srt_length]; exact hnl
        obtain ⟨xs, hxs⟩ : ∃ xs, srt ns = xs := ⟨_, rfl⟩
        have HXS := Aside0.mk hxs
        rw [hxs] at hRa hxl
        obtain ⟨Aa, ca, rfl, la, Ca⟩ := Kd.R_reads hRa
        have HID := Aside0.mk (HI.out.bound.below hb)
        have HBD := Aside0.mk (below_step HB.out hb)
        have HRa := Aside0.mk hRa
        have HCa := Aside0.mk Ca
        have HSW : Aside0 (w.heap.size ≤ wq.heap.size) := ⟨HB.out.size⟩
        clear hb hRa Ca hxs HI HB
        go_wp2_with (first
          | ((with_reducible refine gate_dst (N := 41) rfl ?_); refine Kd.R_lit Kd.string _ 9 ?hg (N := 41) ?hd (xs := ([] : List ByteArray)) (inner := []) (ok := fun _ => True) (okp := fun _ => True) ?hr ?hp (fun _ hk => hk) trivial (Below.refl _ _) (Nat.le_refl _) (by simp) ?_; (case hd => rfl); (case hg => rfl); (case hr => first | (go_simp; done) | (go_simp; rfl)); (case hp => exact (Reps.none _ _)); intro v2 w2 ho hb _ _; have HO2 := Aside0.mk ho; have HBE := Aside0.mk hb; clear ho hb)
          | ((with_reducible refine gate_builtin (b := .append) (xs := #[.tmp 41, .tmp 42]) rfl ?_); at_builtin; refine Kd.R_append_rows Kd.string (w0 := wD) wD.heap.size rfl (.tmp 41) (.tmp 42) 24 9 (.string ⟨#[]⟩) 16 rfl Tryd.underlying24 idx_infoS rfl (by decide) (by omega) v2 [] xs _ _ _ (fun _ => True) (fun _ => False) rfl rfl HO2.out (Kd.C_below HCa.out HBE.out) (fun _ _ h => h) (fun _ h => h.elim) (fun _ _ => trivial) HBE.out (below_size HBE.out) (by simp; omega) ?_; intro v3 w3 ho hb hg hat; have HBF := Aside0.mk hb; have HO3 := Aside0.mk ho; clear HO2 HBE ho hb hg hat))
        obtain ⟨A3, n3, c3, rfl⟩ : ∃ A n c, v3 = Value.slice A n c := by obtain ⟨A, c, h⟩ := Kd.R_slice HO3.out; exact ⟨_, _, _, h⟩
        have HID3 := Aside0.mk (HID.out.below HBF.out)
        have HR3 := Aside0.mk (Kd.R_below HRa.out HBF.out)
        have HB3 := Aside0.mk (below_step HBD.out HBF.out)
        have HOT := Aside0.mk (Kd.R_tight (d := Kd.string) rfl HO3.out)
        have HNO : Aside0 (∀ k, some k = (Value.slice Aa xs.length ca).ownBlock → k < wD.heap.size) := ⟨fun k hk => Kd.R_lt HRa.out k hk.symm⟩
        have HBO : Aside0 (∀ k, some k = (Value.slice A3 n3 c3).ownBlock → wD.heap.size ≤ k) := ⟨fun k hk => by
          rcases Kd.R_base2 HO3.out with h | ⟨q, h, hq⟩
          · rw [h] at hk; cases hk
          · rw [h] at hk; cases hk; exact hq⟩
        have HAO : Aside0 (∀ k, some k = (Value.slice Aa xs.length ca).ownBlock → wq.heap.size ≤ k) := ⟨fun k hk => by
          rcases Kd.R_base2 HRa.out with h | ⟨q, h, hq⟩
          · rw [h] at hk; cases hk
          · rw [h] at hk; cases hk; exact hq⟩
        have HXL := Aside0.mk hxl
        clear HID HBD HRa HCa HBF HO3 HNL
        go_wp2_with fail
        go_loopg [8] xs.length (fun kq v8 wr => ∃ (j : Nat) (ys : List ByteArray), v8 = .int .i64 j ∧ j + kq = xs.length ∧ Aside0 (ys.length = xs.length) ∧ Aside0 (Kd.R Kd.string 9 wr wq.heap.size (fun _ => True) (.slice Aa xs.length ca) ys) ∧ Aside0 (Kept w3 wr (fun k => some k = (Value.slice Aa xs.length ca).ownBlock)) ∧ Aside0 (Below w.heap.size w wr))
        case atStart => exact ⟨0, xs, rfl, by omega, ⟨rfl⟩, HR3, ⟨Kept.refl _ _⟩, HB3⟩
        case round =>
          clear HB3
          obtain ⟨j, ys, rfl, hjk, HYL, HRy, HK, HB⟩ := hrel
          have hyl := HYL.out
          by_cases hjl : j < xs.length
          · have hd2 : decide ((j : Int) < (xs.length : Int)) = true := by simp; omega
            obtain ⟨ad, c, e⟩ := Kd.R_slice1 HRy.out (by omega)
            simp only [Value.slice.injEq] at e
            obtain ⟨rfl, _, _⟩ := e
            obtain ⟨g, rfl⟩ := Kd.R_head HRy.out
            obtain ⟨cl, hcl, hM, hcc⟩ := Kd.R_getA HRy.out ByteArray.empty (j : Int) (by omega) (by omega)
            have hM2 : cl = [.string (ys.getD (j : Int).toNat ByteArray.empty)] := hM
            subst hM2
            have hc1 := hcc 0 _ rfl
            obtain ⟨cells, hblk⟩ := own_typed (Kd.own_of_R HRy.out) g rfl
            have hfz := blk_frozen hblk j
            have hsz1 : (⟨g, 0, none⟩ : Addr).add ((j : Int).toNat * Kd.string.sz + 0) = ⟨g, j, none⟩ := by
              have e1 : (j : Int).toNat * Kd.string.sz + 0 = j := by simp [Kd.string, Kd.scalar]
              rw [e1, add_at, Nat.zero_add]
            rw [hsz1] at hc1
            have hgw : w.heap.size ≤ g := Nat.le_trans HSW.out (HAO.out g rfl)
            have HGW := Aside0.mk hgw
            have p0 : (0 : Int) ≤ j := by omega
            have p1 : (j : Int) < (xs.length : Int) := by omega
            obtain ⟨yv, hyv⟩ : ∃ yv, Value.string (ys.getD (j : Int).toNat ByteArray.empty) = yv := ⟨_, rfl⟩
            rw [hyv] at hc1
            clear hcc hM hcl hblk hsz1 hgw hyv hyl
            go_wp2_with fail
            go_roundg (xs.length - (j + 1))
            case measure => omega
            case rel => exact ⟨j + 1, ys.set j ⟨#[63]⟩, by first | rfl | simp, by omega, ⟨by rw [List.length_set]; exact HYL.out⟩, ⟨by have := Kd.R_putn HRy.out (j : Int) ⟨#[63]⟩; simp only [Int.toNat_natCast] at this; exact this⟩, ⟨HK.out.setCell (p := ⟨g, j, none⟩) (.inl rfl) _⟩, ⟨HB.out.setCell HGW.out _⟩⟩
          · have hd2 : decide ((j : Int) < (xs.length : Int)) = false := by simp; omega
            clear hyl
            have HIe := Aside0.mk (HID3.out.kept HK.out (fun k hk he => by have := HAO.out k he; have := hk.2; omega))
            have HOe := Aside0.mk (Kd.R_kept HOT.out HK.out (fun k hk he => by have := HNO.out k he; have := HBO.out k hk; omega))
            go_wp2_with fail
            refine (sorted_ask HIe.out).mono ?_
            rintro e wE ⟨ve, rfl, hRe, hb⟩
            rw [HXS.out] at hRe
            obtain ⟨Ae, ce, rfl, le, Ce⟩ := Kd.R_reads hRe
            obtain ⟨A9, c9, e9, l9, C9⟩ := Kd.R_reads HOe.out
            simp only [List.nil_append, Value.slice.injEq] at e9
            obtain ⟨rfl, rfl, rfl⟩ := e9
            obtain ⟨kk, hkk⟩ := same_ask xs (by have := HXL.out; omega)
            have HCe := Aside0.mk Ce
            have HC9 := Aside0.mk (Kd.C_below C9 hb)
            have HBe := Aside0.mk (below_step HB.out hb)
            have HKK := Aside0.mk hkk
            clear hRe hb Ce C9 HIe HOe hkk
            go_wp2_with fail
            refine (pendulumref03_Same.calls kk Ae ce xs A3 c3 xs true wE HCe.out le (by simpa using HC9.out) (by simpa using l9) HKK.out).mono ?_
            rintro e wF ⟨rfl, hd⟩
            have HBf := Aside0.mk (below_step HBe.out hd.below)
            clear hd
            go_wp2_with fail
            go_ret
            exact ⟨rfl, HBf.out⟩
end Go.Proofs.YtncmfomhigielaaDoor.Q
