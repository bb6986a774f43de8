-- number and next of lex, walked by hand.
import Derived.Test.YtadfcdpalcgghaaDoorM0
import Derived.Test.YtadfcdpalcgghaaDoorHlexA
namespace Go.Proofs.YtadfcdpalcgghaaDoor.Q
open Go.RowKit Go.Proofs.YtadfcdpalcgghaaDoorW.PrintWords Go.Proofs.YtadfcdpalcgghaaDoorW.PrintLast Go.Proofs.YtadfcdpalcgghaaDoorW.PrintMore
attribute [local go_sem] max2_int min2_int max_two min_two max_three min_three max_four min_four   -- for this text's walks alone
set_option linter.unusedVariables false
set_option linter.unusedSimpArgs false

theorem take_digits_ok {l : List Int} (hb : okBytes l = true) (p : Nat) : ∀ x ∈ (l.drop p).takeWhile dgB, 48 ≤ x ∧ x ≤ 57 := by
 intro x hx
 have h1 : ∀ s : List Int, x ∈ s.takeWhile dgB → dgB x = true := by
  intro s
  induction s with
  | nil => intro h; simp at h
  | cons c s ih =>
   intro h
   rw [List.takeWhile_cons] at h
   split at h
   ·rename_i hc
    rcases List.mem_cons.1 h with rfl | h
    ·exact hc
    ·exact ih h
   ·simp at h
 have h2 := h1 _ hx
 unfold dgB at h2
 simpa using h2
theorem bt_str (t : List Int) (hd : ∀ x ∈ t, 48 ≤ x ∧ x ≤ 57) (k : Nat) (hk : k < t.length) : bt (strOfNums t) (k : Int) = t.getD k 0 := by
 have hx := hd t[k] (List.getElem_mem hk)
 unfold bt
 rw [dif_pos (by rw [strOfNums_size]; simpa using hk)]
 have e : ((strOfNums t)[(k : Int).toNat]'(by rw [strOfNums_size]; simpa using hk)) = UInt8.ofNat (t[k]).toNat := by
  simp [strOfNums, ByteArray.getElem_eq_getElem_data]
 rw [e]
 simp [List.getD_eq_getElem?_getD, List.getElem?_eq_getElem hk]
 omega
theorem drop_getD (t : List Int) (k : Nat) (h : k < t.length) : t.drop k = t.getD k 0 :: t.drop (k + 1) := by
 rw [List.drop_eq_getElem_cons h]
 simp [List.getD_eq_getElem?_getD, List.getElem?_eq_getElem h]
theorem val_go {t : List Int} {m : Int} {k : Nat} {r : Option Int} (h : k < t.length) (he : valGo m (t.drop k) = r) (hs : ¬ 10 * m + (t.getD k 0 - 48) > 1099511627776) : valGo (10 * m + (t.getD k 0 - 48)) (t.drop (k + 1)) = r := by
 rw [drop_getD t k h] at he
 simp only [valGo] at he
 rw [if_neg hs] at he
 exact he
theorem val_over {t : List Int} {m : Int} {k : Nat} {r : Option Int} (h : k < t.length) (he : valGo m (t.drop k) = r) (hs : 10 * m + (t.getD k 0 - 48) > 1099511627776) : r = none := by
 rw [drop_getD t k h] at he
 simp only [valGo] at he
 rw [if_pos hs] at he
 exact he.symm
theorem val_end {t : List Int} {m : Int} {k : Nat} {r : Option Int} (h : ¬ k < t.length) (he : valGo m (t.drop k) = r) : r = some m := by
 rw [List.drop_eq_nil_of_le (by omega)] at he
 exact he.symm
set_option maxHeartbeats 1000000 in
set_option maxRecDepth 100000 in
theorem number_any (w0 w : World) (g : Nat) (A : Option Addr) (c : Nat) (l : List Int) (p : Nat) (line : Int) (col : Int) (v : Value) (xs : List S61) (r : Option Int)
  (hl : l.length ≤ 5000000) (hp : p ≤ l.length) (hb : okBytes l = true) (hcol0 : 0 ≤ col) (hcol1 : col ≤ 10000000) (hxl : xs.length ≤ 10000000) (hr0 : Kd.C (Kd.int .u8) w0 A l.length l) (hc0 : l.length ≤ c) (hR : Rdr w0 w g A l.length c p line col v xs)
  (hr : valGo 0 ((l.drop p).takeWhile dgB) = r) :
  Calls Tryd.prog 50 #[.pointer (some ⟨g, 0, none⟩)] w fun e w' => e = .returned (.bool r.isSome) ∧ Below w0.heap.size w0 w' ∧ ∀ n, r = some n → ∃ (q : Nat) (v' : Value), p + ((l.drop p).takeWhile dgB).length = q ∧ q ≤ l.length ∧ Rdr w0 w' g A l.length c q line (col + (q - p)) v' (xs ++ [⟨2, strOfNums ((l.drop p).takeWhile dgB), n, line, col⟩]) := by
 obtain ⟨h0, h1, h2, h3, h4, f1, f2, f3, f4⟩ := hR.cells
 have HR := Aside0.mk hR
 have HR0 := Aside0.mk hr0
 have HD := Aside0.mk (take_digits_ok hb p)
 have HV := Aside0.mk hr
 clear hR hr0 hb hr
 go_enter Tryd.func50, Tryd.ntmps50
 go_wp2_with (go_at_call 47; refine (take_digit w0 _ g A c l p line col v xs hl hp hcol0 hcol1 HR0.out hc0 HR.out).mono ?_; rintro e w' ⟨q, S, HE0, HS0, hql, rfl, HR1⟩; have HE := Aside0.mk HE0; have HS := Aside0.mk HS0; have HRq := Aside0.mk HR1; clear HE0 HS0 HR1 h0 h1 h2 h3 h4 f1 f2 f3 f4)
 have HZ : Aside0 (S.size = ((l.drop p).takeWhile dgB).length) := ⟨by rw [HS.out, strOfNums_size]⟩
 have HBT : Aside0 (∀ k : Nat, k < S.size → bt S (k : Int) = ((l.drop p).takeWhile dgB).getD k 0 ∧ 48 ≤ bt S (k : Int) ∧ bt S (k : Int) ≤ 57) := ⟨fun k hk => by
  have hk' : k < ((l.drop p).takeWhile dgB).length := by rw [← HZ.out]; exact hk
  have e : bt S (k : Int) = ((l.drop p).takeWhile dgB).getD k 0 := by rw [HS.out]; exact bt_str _ HD.out k hk'
  refine ⟨e, ?_⟩
  rw [e]
  have := HD.out _ (List.getElem_mem hk')
  simpa [List.getD_eq_getElem?_getD, List.getElem?_eq_getElem hk'] using this⟩
 have hsz : (S.size : Int) ≤ 5000000 := by have := HZ.out; have h2 := takeWhile_le dgB (l.drop p); simp at h2; omega
 obtain ⟨t, ht⟩ : ∃ t, (l.drop p).takeWhile dgB = t := ⟨_, rfl⟩
 rw [ht] at HZ HBT HV HE HS
 have HT := Aside0.mk ht
 clear ht HD
 go_loopg [2, 5, 15] (S.size) (fun kq v2 v5 v15 wr => ∃ (k : Nat) (m : Int), v2 = .bool false ∧ v5 = .int .i64 m ∧ v15 = .int .i64 k ∧ k ≤ S.size ∧ 0 ≤ m ∧ m ≤ 1099511627776 ∧ Aside0 (kq = S.size - k) ∧ Aside0 (valGo m (t.drop k) = r) ∧ Drawn0 w' wr)
 case atStart => exact ⟨0, 0, rfl, rfl, rfl, Nat.zero_le _, by omega, by omega, ⟨rfl⟩, ⟨HV.out⟩, Drawn0.refl _⟩
 case round =>
  obtain ⟨k, m, rfl, rfl, rfl, hkl, hm0, hm1, HK, HG, ⟨nd, rfl⟩⟩ := hrel
  by_cases hlt : k < S.size
  ·obtain ⟨hb0, hb1, hb2⟩ := HBT.out k hlt
   have hx := bt_at S (k : Int) (by simpa using hlt)
   simp only [Int.toNat_natCast] at hx
   rw [← hx] at hb0 hb1 hb2
   have HB0 := Aside0.mk hb0
   clear hb0 hx
   have hd0 : decide ((k : Int) < (S.size : Int)) = true := by simp; omega
   have q0 : (0 : Int) ≤ k := by omega
   have q1 : (k : Int) < (S.size : Int) := by omega
   have hlt' : k < t.length := by have := HZ.out; omega
   by_cases hov : 1099511627776 < 10 * m + ((S[k].toNat : Int) - 48)
   ·have ht := decide_eq_true hov
    clear hov
    go_wp2
    go_ret
    have hn : r = none := val_over hlt' HG.out (by rw [← HB0.out]; exact of_decide_eq_true ht)
    subst hn
    exact ⟨rfl, (HRq.out.drewN nd).2.2.1, fun n hn => by cases hn⟩
   ·have ht := decide_eq_false hov
    have hm2 : 10 * m + ((S[k].toNat : Int) - 48) ≤ 1099511627776 := by omega
    clear hov
    go_wp2
    go_roundg (S.size - (k + 1))
    case measure => have := HK.out; omega
    case rel => exact ⟨k + 1, 10 * m + ((S[k].toNat : Int) - 48), rfl, rfl, by go_num, by omega, by omega, hm2, ⟨rfl⟩, ⟨by rw [HB0.out]; exact val_go hlt' HG.out (by rw [← HB0.out]; omega)⟩, Drawn0.mk ⟨nd, rfl⟩⟩
  ·have hd0 : decide ((k : Int) < (S.size : Int)) = false := by simp; omega
   have hn : r = some m := val_end (by have := HZ.out; omega) HG.out
   have HN := Aside0.mk hn
   clear hn
   go_wp2_with (go_at_call 37; refine (add_any w0 _ g A _ c q line (col + (q - p)) v xs 2 m col S hxl (HRq.out.drewN nd)).mono ?_; rintro e w' ⟨rfl, v', HR2⟩; have HRr := Aside0.mk HR2; clear HR2)
   go_ret
   rw [HN.out]
   refine ⟨rfl, HRr.out.2.2.1, fun n hn => ?_⟩
   cases hn
   exact ⟨q, v', by rw [HT.out]; exact HE.out, hql, by rw [HT.out, ← HS.out]; exact HRr.out⟩
end Go.Proofs.YtadfcdpalcgghaaDoor.Q
