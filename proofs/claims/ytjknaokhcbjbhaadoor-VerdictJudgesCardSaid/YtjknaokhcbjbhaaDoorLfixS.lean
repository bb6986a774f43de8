-- What the reference's Next, Response, Judge answer of right sets (no program in sight).
-- NEEDS pendulum/pendulumref19.Response pendulum/pendulumref20.Judge
-- PLAIN
import Derived.Test.YtjknaokhcbjbhaaDoorM0
import Derived.Test.YtjknaokhcbjbhaaDoorQ21
import Derived.Test.YtjknaokhcbjbhaaDoorQ25
import Derived.Test.YtjknaokhcbjbhaaDoorQ26
import Derived.Test.YtjknaokhcbjbhaaDoorQ27
import Derived.Test.YtjknaokhcbjbhaaDoorHfixJ
import Derived.Test.YtjknaokhcbjbhaaDoorHfixK
import Derived.Test.YtjknaokhcbjbhaaDoorM22
namespace Go.Proofs.YtjknaokhcbjbhaaDoor.Q
open Go.RowKit Go.Proofs.YtjknaokhcbjbhaaDoorW.PrintWords Go.Proofs.YtjknaokhcbjbhaaDoorW.PrintLast Go.Proofs.YtjknaokhcbjbhaaDoorW.PrintMore
attribute [local go_sem] max2_int min2_int max_two min_two max_three min_three max_four min_four   -- for this text's walks alone
set_option linter.unusedVariables false
set_option linter.unusedSimpArgs false

theorem rwhole_eval {t : TK} (h : Dem t) : pendulumref19_Whole.f t.f0 t.f1 t.f2 t.f3 t.f4 t.f5 t.f6 t.f7 t.f8 t.f9 t.f10 = some (wholeF t) := by
 unfold pendulumref19_Whole.f
 by_cases hm : t.f9 = 1
 ·have hp := h.parts hm
  have hw := h.whole
  have e : wholeF t = t.f3 + ceilF t.f3 t.f5 * t.f6 := by unfold wholeF ceilF; rw [if_pos hm]
  obtain ⟨T1, T2, D1, D2, C1, C2, X1, X2, M⟩ := h
  have hs : 0 < t.f5 := by rcases M with ⟨h, _⟩ | ⟨h, _⟩ <;> omega
  have hs2 : t.f5 ≤ 1048576 := by rcases M with ⟨h, _⟩ | ⟨h, _⟩ <;> omega
  rw [if_pos hm, if_neg (by omega), w64_ok (x := t.f3 + t.f5) (by omega) (by omega), w64_ok (x := t.f3 + t.f5 - 1) (by omega) (by omega), Int.tdiv_eq_ediv_of_nonneg (by omega)]
  rw [show (t.f3 + t.f5 - 1) / t.f5 = ceilF t.f3 t.f5 from rfl, w64_ok (x := ceilF t.f3 t.f5) (by omega) (by omega), w64_ok (x := ceilF t.f3 t.f5 * t.f6) (by omega) (by omega), w64_ok (by omega) (by omega), e]
 ·obtain ⟨T1, T2, D1, D2, C1, C2, X1, X2, M⟩ := h
  rw [if_neg hm, w64_ok (by omega) (by omega)]
  unfold wholeF
  rw [if_neg hm]
theorem rmost_eval {w b g : Int} (hw : 0 ≤ w) (hw2 : w ≤ 1048576) (hb : 1 ≤ b) (hb2 : b ≤ 1000) (hg : 1 ≤ g) : pendulumref18_Most.f w b g = some (mostF w b g) := by
 have hm := most_bound hw hw2 hb hb2 hg
 rw [most_ref hw hb hg] at hm ⊢
 unfold pendulumref18_Most.f
 by_cases h : w = 0
 ·rw [if_pos h, if_pos h]
 ·rw [if_neg h] at hm ⊢
  rw [if_neg h, if_neg (by omega), w64_ok (x := w + b) (by omega) (by omega), w64_ok (x := w + b - 2) (by omega) (by omega), Int.tdiv_eq_ediv_of_nonneg (by omega), w64_ok (x := (w + b - 2) / g) (by omega) (by omega), w64_ok (by omega) (by omega)]
theorem rnext_loop {b : Int} {ts : List TK} (hD : ∀ t ∈ ts, Dem t) (hl : ts.length ≤ 16) (i : Nat) (hi : i < ts.length) (w : Int) (hw : 0 ≤ w) (hw2 : w ≤ 1048576) : ∀ (n j k : Nat) (acc : Int), j + n = ts.length → n < k → 0 ≤ acc → acc + aboveL (tkA ts i).f10 w (ts.drop j) ≤ 100000000000000000 →
  pendulumref19_Next.l0 k (i : Int) w acc (j : Int) b ts = some (acc + aboveL (tkA ts i).f10 w (ts.drop j))
 | 0, j, k, acc, h, hk, _, _ => by
  obtain ⟨k, rfl⟩ : ∃ x, k = x + 1 := ⟨k - 1, by omega⟩
  rw [pendulumref19_Next.l0, if_neg (by omega), List.drop_of_length_le (by omega), aboveL, Int.add_zero]
 | n + 1, j, k, acc, h, hk, h0, h1 => by
  obtain ⟨k, rfl⟩ : ∃ x, k = x + 1 := ⟨k - 1, by omega⟩
  have hj : j < ts.length := by omega
  have gx : rd_T42 ts (j : Int) = ts[j] := by simp [rd_T42, List.getD_eq_getElem?_getD, List.getElem?_eq_getElem hj]
  have gi : (rd_T42 ts (i : Int)) = tkA ts i := rfl
  have hd := hD ts[j] (List.getElem_mem hj)
  have hT1 := hd.T1
  have hT2 := hd.T2
  have hw3 := hd.whole
  rw [List.drop_eq_getElem_cons hj, aboveL] at h1 ⊢
  have hr := above_bound (tkA ts i).f10 w hw hw2 (ts.drop (j + 1)) (fun t ht => hD t (List.mem_of_mem_drop ht))
  rw [pendulumref19_Next.l0, if_pos (by omega), if_pos (by omega), if_pos (by omega), if_pos (by omega), gx, gi]
  rw [show wrap64 ((j : Int) + 1) = ((j + 1 : Nat) : Int) by rw [w64_ok (by omega) (by omega)]; omega]
  by_cases hp : ts[j].f10 < (tkA ts i).f10
  ·rw [if_pos hp] at h1 ⊢
   rw [if_pos hp, if_neg (by omega), rwhole_eval hd]
   simp only [Option.bind_some]
   have c1 := ceil_pos (show 0 < ts[j].f1 by omega) hw
   have c2 := ceil_le (show 0 < ts[j].f1 by omega) hw
   have c3 := Int.mul_nonneg c1 (show 0 ≤ wholeF ts[j] by omega)
   rw [w64_ok (x := w + ts[j].f1) (by omega) (by omega), w64_ok (x := w + ts[j].f1 - 1) (by omega) (by omega), Int.tdiv_eq_ediv_of_nonneg (by omega),
    show (w + ts[j].f1 - 1) / ts[j].f1 = ceilF w ts[j].f1 from rfl, w64_ok (x := ceilF w ts[j].f1) (by omega) (by omega), w64_ok (x := ceilF w ts[j].f1 * wholeF ts[j]) (by omega) (by omega), w64_ok (by omega) (by omega),
    rnext_loop hD hl i hi w hw hw2 n (j + 1) k _ (by omega) (by omega) (by omega) (by omega), Int.add_assoc]
  ·rw [if_neg hp] at h1 ⊢
   rw [if_neg hp, rnext_loop hD hl i hi w hw hw2 n (j + 1) k _ (by omega) (by omega) (by omega) (by omega), Int.zero_add]
theorem rnext_eval {b : Int} {ts : List TK} {g : Int} (h : RightS b ts) (hg1 : 1 ≤ g) (hg2 : g ≤ 1049576) (i : Nat) (hi : i < ts.length) (w : Int) (hw : 0 ≤ w) (hw2 : w ≤ 1048576) (k : Nat) (hk : ts.length < k) :
  pendulumref19_Next.f k b ts (i : Int) g w = some (nextF b ts (tkA ts i) g w) := by
 have hdt := h.dem _ (tkA_mem ts i hi)
 have hnb := next_bound h.b0 h.b1 hg1 hw hw2 h.dem hdt h.n1
 have hab := add_bound hw hw2 h.b0 h.b1 hg1 (tkA ts i).f10 ts h.dem
 have hmb := most_bound hw hw2 h.b0 h.b1 hg1
 have hwb := hdt.whole
 have hhb := ahead_bound (tkA ts i).f10 ts h.dem
 have hl := h.n1
 have hb0 := h.b0
 have hb1 := h.b1
 have hbb := above_bound (tkA ts i).f10 w hw hw2 ts h.dem
 have gi : (rd_T42 ts (i : Int)) = tkA ts i := rfl
 have e1 : pendulumref19_Ahead.f b ts (i : Int) = some (aheadL (tkA ts i).f10 ts 0) := by
  unfold pendulumref19_Ahead.f
  rw [if_pos ⟨h.dem, h.nodup, by omega, by omega, by omega⟩]; rfl
 have e2 : pendulumref19_Dear.f b ts (i : Int) = some (dearL (tkA ts i).f10 ts 0) := by
  unfold pendulumref19_Dear.f
  rw [if_pos ⟨h.dem, h.nodup, by omega, by omega, by omega⟩]; rfl
 unfold nextF at hnb ⊢
 unfold pendulumref19_Next.f
 rw [if_pos (by omega), if_pos (by omega), gi, rwhole_eval hdt, e1, rmost_eval hw hw2 h.b0 h.b1 hg1, e2]
 simp only [Option.bind_some]
 obtain ⟨wh, hwh⟩ : ∃ x, wholeF (tkA ts i) = x := ⟨_, rfl⟩
 obtain ⟨ah, hah⟩ : ∃ x, aheadL (tkA ts i).f10 ts 0 = x := ⟨_, rfl⟩
 obtain ⟨de, hde⟩ : ∃ x, dearL (tkA ts i).f10 ts 0 = x := ⟨_, rfl⟩
 obtain ⟨mo, hmo⟩ : ∃ x, mostF w b g = x := ⟨_, rfl⟩
 obtain ⟨ab, hab2⟩ : ∃ x, aboveL (tkA ts i).f10 w ts = x := ⟨_, rfl⟩
 rw [hwh, hah, hde, hmo, hab2] at hnb
 rw [hde, hmo] at hab
 rw [hmo] at hmb
 rw [hwh] at hwb
 rw [hah] at hhb
 rw [hab2] at hbb
 rw [hwh, hah, hde, hmo]
 have hmp : 0 ≤ mo * b := Int.mul_nonneg hmb.1 (by omega)
 have hmq : mo * b ≤ 1049575 * 1000 := Int.mul_le_mul hmb.2 (by omega) (by omega) (by omega)
 have hac : mo * b * de = mo * (b * de) := Int.mul_assoc _ _ _
 rw [w64_ok (x := mo * b) (by omega) (by omega), hac, w64_ok (x := wh + ah) (by omega) (by omega), w64_ok (x := mo * (b * de)) (by omega) (by omega), w64_ok (by omega) (by omega)]
 have hlp := rnext_loop (b := b) h.dem hl i hi w hw hw2 ts.length 0 k (wh + ah + mo * (b * de)) (by omega) hk (by omega) (by rw [List.drop_zero, hab2]; omega)
 rw [List.drop_zero, hab2] at hlp
 rw [hab2]
 exact hlp
theorem rresp_loop {b : Int} {ts : List TK} {g : Int} (h : RightS b ts) (hg1 : 1 ≤ g) (hg2 : g ≤ 1049576) (i : Nat) (hi : i < ts.length) : ∀ (n k : Nat) (w : Int), 0 ≤ w → (tkA ts i).f2 - w + 1 < n → n + ts.length + 1 < k →
  pendulumref19_Response.l0 k (i : Int) g w b ts = some (resO (respR (nextF b ts (tkA ts i) g) (tkA ts i).f2 n w))
 | 0, k, w, h0, h1, hk => by
  obtain ⟨k, rfl⟩ : ∃ x, k = x + 1 := ⟨k - 1, by omega⟩
  have gi : (rd_T42 ts (i : Int)) = tkA ts i := rfl
  rw [pendulumref19_Response.l0, if_pos (by omega), if_pos (by omega), gi, if_neg (by omega)]
  rfl
 | n + 1, k, w, h0, h1, hk => by
  obtain ⟨k, rfl⟩ : ∃ x, k = x + 1 := ⟨k - 1, by omega⟩
  have gi : (rd_T42 ts (i : Int)) = tkA ts i := rfl
  have hd := h.dem _ (tkA_mem ts i hi)
  have hT := hd.T2
  have hD := hd.D2
  rw [pendulumref19_Response.l0, if_pos (by omega), if_pos (by omega), gi, respR]
  by_cases hw : w ≤ (tkA ts i).f2
  ·rw [if_pos hw, if_pos hw, rnext_eval h hg1 hg2 i hi w h0 (by omega) k (by omega)]
   simp only [Option.bind_some]
   by_cases hf : nextF b ts (tkA ts i) g w = w
   ·rw [if_pos hf, if_pos hf]; rfl
   ·rw [if_neg hf, if_neg hf, w64_ok (by omega) (by omega)]
    exact rresp_loop h hg1 hg2 i hi n k (w + 1) (by omega) (by omega) (by omega)
  ·rw [if_neg hw, if_neg hw]; rfl
theorem rresp_eval {b : Int} {ts : List TK} {g : Int} (h : RightS b ts) (hg1 : 1 ≤ g) (hg2 : g ≤ 1049576) (i : Nat) (hi : i < ts.length) (k : Nat) (hk : ((tkA ts i).f2 + 2).toNat + 20 < k) : pendulumref19_Response.f k b ts (i : Int) g = some (resO (respI b ts g i)) := by
 have hd := (h.dem _ (tkA_mem ts i hi)).D1
 have hl := h.n1
 unfold pendulumref19_Response.f respI
 exact rresp_loop h hg1 hg2 i hi ((tkA ts i).f2 + 2).toNat k 0 (by omega) (by omega) (by omega)
theorem rj_l1 {b : Int} {ts : List TK} {g : Int} (h : RightS b ts) (hg1 : 1 ≤ g) (hg2 : g ≤ 1049576) (B : Nat) (hB : ∀ t ∈ ts, (t.f2 + 2).toNat + 20 < B) (p : Nat) (hp : p ≤ 255) (k : Nat) (hk : B ≤ k) : ∀ (n j : Nat) (s : JSt), j + n = ts.length → s.2.2.length = ts.length →
  pendulumref20_Judge.l1 (k + 1 + 2 * n) g (p : Int) (j : Int) b ts s.1 s.2.1 s.2.2 = pendulumref20_Judge.l0 k g ((p + 1 : Nat) : Int) b ts (bandJ (keyA ts) (respI b ts g) (p : Int) ((List.range ts.length).drop j) s).1 (bandJ (keyA ts) (respI b ts g) (p : Int) ((List.range ts.length).drop j) s).2.1 (bandJ (keyA ts) (respI b ts g) (p : Int) ((List.range ts.length).drop j) s).2.2
 | 0, j, s, hj, hs => by
  rw [List.drop_of_length_le (by rw [List.length_range]; omega), bandJ, Nat.mul_zero, Nat.add_zero, pendulumref20_Judge.l1, if_neg (by omega), show wrap64 ((p : Int) + 1) = ((p + 1 : Nat) : Int) by rw [w64_ok (by omega) (by omega)]; omega]
 | n + 1, j, s, hj, hs => by
  have hjl : j < ts.length := by omega
  have hl := h.n1
  have gi : (rd_T42 ts (j : Int)) = tkA ts j := rfl
  have hw : wrap64 ((j : Int) + 1) = ((j + 1 : Nat) : Int) := by rw [w64_ok (by omega) (by omega)]; omega
  rw [range_step _ _ hjl, bandJ, tkA_key ts j hjl, show k + 1 + 2 * (n + 1) = (k + 1 + 2 * n) + 1 + 1 by omega, pendulumref20_Judge.l1, if_pos (by omega), if_pos (by omega), gi]
  obtain ⟨ok, late, R⟩ := s
  simp only at hs ⊢
  by_cases hkey : (tkA ts j).f10 = (p : Int)
  ·rw [if_pos hkey, if_pos hkey, pendulumref20_Judge.j2]
   cases ok with
   | false =>
    rw [if_pos (show (!false) = true from rfl), hw, show stepJ (respI b ts g) (false, late, R) j = (false, late, R) from rfl]
    exact rj_l1 h hg1 hg2 B hB p hp k hk n (j + 1) (false, late, R) (by omega) hs
   | true =>
    rw [if_neg (by decide), rresp_eval h hg1 hg2 j hjl _ (by have := hB _ (tkA_mem ts j hjl); omega)]
    simp only [Option.bind_some]
    cases hr : respI b ts g j with
    | none =>
     rw [show stepJ (respI b ts g) (true, late, R) j = (false, (j : Int), R) by unfold stepJ; rw [hr]; rfl]
     simp only [resO, Bool.false_eq_true, if_false]
     rw [hw]
     exact rj_l1 h hg1 hg2 B hB p hp k hk n (j + 1) (false, (j : Int), R) (by omega) hs
    | some r =>
     rw [show stepJ (respI b ts g) (true, late, R) j = (true, late, R.set j r) by unfold stepJ; rw [hr]; rfl]
     simp only [resO, if_true]
     rw [if_pos (by omega), if_pos (by omega), hw, show ((j : Int)).toNat = j by omega]
     exact rj_l1 h hg1 hg2 B hB p hp k hk n (j + 1) (true, late, R.set j r) (by omega) (by simpa using hs)
  ·rw [if_neg hkey, if_neg hkey, pendulumref20_Judge.j2, if_pos rfl, hw]
   exact rj_l1 h hg1 hg2 B hB p hp k hk n (j + 1) (ok, late, R) (by omega) hs
theorem step_len (resp : Nat → Option Int) (s : JSt) (i : Nat) : (stepJ resp s i).2.2.length = s.2.2.length := by
 unfold stepJ
 split
 ·rfl
 ·split <;> simp
theorem bandJ_len (key : Nat → Int) (resp : Nat → Option Int) (p : Int) : ∀ (l : List Nat) (s : JSt), (bandJ key resp p l s).2.2.length = s.2.2.length
 | [], s => rfl
 | i :: r, s => by
  rw [bandJ, bandJ_len key resp p r]
  split
  ·exact step_len resp s i
  ·rfl
theorem rj_l0 {b : Int} {ts : List TK} {g : Int} (h : RightS b ts) (hg1 : 1 ≤ g) (hg2 : g ≤ 1049576) (B : Nat) (hB : ∀ t ∈ ts, (t.f2 + 2).toNat + 20 < B) (k : Nat) (hk : B ≤ k) : ∀ (m p : Nat) (s : JSt), p + m = 256 → s.2.2.length = ts.length →
  pendulumref20_Judge.l0 (k + 1 + m * (2 * ts.length + 2)) g (p : Int) b ts s.1 s.2.1 s.2.2 = some (bandsJ (keyA ts) (respI b ts g) (List.range ts.length) ((List.range 256).drop p) s)
 | 0, p, s, hp, hs => by
  rw [List.drop_of_length_le (by rw [List.length_range]; omega), bandsJ, Nat.zero_mul, Nat.add_zero, pendulumref20_Judge.l0, if_neg (by omega)]
 | m + 1, p, s, hp, hs => by
  have hpl : p < 256 := by omega
  rw [range_step _ _ hpl, bandsJ, show k + 1 + (m + 1) * (2 * ts.length + 2) = (k + 1 + m * (2 * ts.length + 2) + 1 + 2 * ts.length) + 1 by rw [Nat.succ_mul]; omega, pendulumref20_Judge.l0, if_pos (by omega)]
  have h1 := rj_l1 h hg1 hg2 B hB p (by omega) (k + 1 + m * (2 * ts.length + 2)) (by omega) ts.length 0 s (by omega) hs
  rw [List.drop_zero] at h1
  rw [show (0 : Int) = ((0 : Nat) : Int) from rfl, h1]
  exact rj_l0 h hg1 hg2 B hB k hk m (p + 1) _ (by omega) (by rw [bandJ_len]; exact hs)
theorem rjudge_eval {b : Int} {ts : List TK} {g : Int} (h : RightS b ts) (hg1 : 1 ≤ g) (hg2 : g ≤ 1049576) (B : Nat) (hB : ∀ t ∈ ts, (t.f2 + 2).toNat + 20 < B) (k : Nat) (hk : B + 9000 ≤ k) : pendulumref20_Judge.f k b ts g = some (jdg b ts g) := by
 have hl := h.n1
 have hm : 256 * (2 * ts.length + 2) ≤ 256 * 34 := Nat.mul_le_mul_left _ (by omega)
 obtain ⟨q, rfl⟩ : ∃ q, k = q + 1 + 256 * (2 * ts.length + 2) := ⟨k - 1 - 256 * (2 * ts.length + 2), by omega⟩
 unfold pendulumref20_Judge.f
 rw [if_pos (by omega), if_pos (by omega), show ((ts.length : Int)).toNat = ts.length by omega]
 have h0 := rj_l0 h hg1 hg2 B hB q (by omega) 256 0 (true, -1, List.replicate ts.length 0) (by omega) (by simp)
 rw [List.drop_zero, bands_fold] at h0
 have e : ((List.range 256).flatMap (fun p : Nat => (List.range ts.length).filter (fun i => decide (keyA ts i = (p : Int))))) = ordI ts := by
  unfold ordI
  rw [ord_band ts h.nodup (fun t ht => (h.task ht).prio)]
  rfl
 rw [e, step_judge] at h0
 exact h0
end Go.Proofs.YtjknaokhcbjbhaaDoor.Q
