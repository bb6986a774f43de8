-- next of lex, walked by hand, a way at a time.
import Derived.Test.YtadfcdpalcgghaaDoorM0
import Derived.Test.YtadfcdpalcgghaaDoorHlexA
import Derived.Test.YtadfcdpalcgghaaDoorHlexB
namespace Go.Proofs.YtadfcdpalcgghaaDoor.Q
open Go.RowKit Go.Proofs.YtadfcdpalcgghaaDoorW.PrintWords Go.Proofs.YtadfcdpalcgghaaDoorW.PrintLast Go.Proofs.YtadfcdpalcgghaaDoorW.PrintMore
attribute [local go_sem] max2_int min2_int max_two min_two max_three min_three max_four min_four   -- for this text's walks alone
set_option linter.unusedVariables false
set_option linter.unusedSimpArgs false

def NextPost (w0 : World) (g : Nat) (A : Option Addr) (c : Nat) (l : List Int) (p : Nat) (line col : Int) (xs : List S61) (e : Ending) (w' : World) : Prop :=
 e = .returned (.int .i64 (piece (l.drop p)).1) ∧ Below w0.heap.size w0 w' ∧ ((piece (l.drop p)).1 = 0 → ∃ v', Rdr w0 w' g A l.length c (p + (piece (l.drop p)).2.1 : Nat) (if (piece (l.drop p)).2.2.2 = true then line + 1 else line) (if (piece (l.drop p)).2.2.2 = true then 1 else col + (piece (l.drop p)).2.1) v' (xs ++ tokL (piece (l.drop p)).2.2.1 line col))
set_option maxHeartbeats 1000000 in
set_option maxRecDepth 100000 in
theorem next_word (w0 w : World) (g : Nat) (A : Option Addr) (c : Nat) (l : List Int) (p : Nat) (line : Int) (col : Int) (v : Value) (xs : List S61)
  (hl : l.length ≤ 5000000) (hp : p < l.length) (hb : okBytes l = true) (hli0 : 0 ≤ line) (hli1 : line ≤ 10000000) (hcol0 : 0 ≤ col) (hcol1 : col ≤ 9000000) (hxl : xs.length ≤ 10000000) (hr0 : Kd.C (Kd.int .u8) w0 A l.length l) (hc0 : l.length ≤ c) (hR : Rdr w0 w g A l.length c p line col v xs)
  (hs : smB (rd l p) = true) :
  Calls Tryd.prog 36 #[.pointer (some ⟨g, 0, none⟩)] w (NextPost w0 g A c l p line col xs) := by
 obtain ⟨h0, h1, h2, h3, h4, f1, f2, f3, f4⟩ := hR.cells
 have HD := Aside0.mk (drop_rd l p hp)
 have HR := Aside0.mk hR
 have HR0 := Aside0.mk hr0
 obtain ⟨ad, e, hc⟩ := Kd.at_int hr0 (p : Int) (by omega) (by omega)
 cases e
 replace hc := (hR.2.2.1.cell (World.block_lt_of_cell? w0 _ hc)).trans hc
 simp only [Int.toNat_natCast] at hc
 have hby := rd_ok hb p hp
 obtain ⟨y, hy⟩ : ∃ y, rd l p = y := ⟨_, rfl⟩
 rw [hy] at hc HD hby
 have HYD := Aside0.mk hy
 have HPB := Aside0.mk hb
 clear hR hr0 hb
 rw [hy] at hs
 have HS : Aside0 (lex_small.f y = some true) := ⟨by rw [lex_small_eq, hs]⟩
 have HP := Aside0.mk (piece_word (s := l.drop (p + 1)) hs)
 clear hs
 clear hy
 have hd0 : decide ((p : Int) < (l.length : Int)) = true := by simp; omega
 have q0 : (0 : Int) ≤ p := by omega
 have q1 : (p : Int) < (l.length : Int) := by omega
 obtain ⟨hby0, hby1⟩ := hby
 go_enter Tryd.func36, Tryd.ntmps36
 go_wp2_with fail
 go_quiet (fail)
 go_wp2_with (first | (go_at_call 46; (with_reducible refine (lex_small.calls _ true _ HS.out).mono ?_); rintro e w' ⟨rfl, ⟨nd, rfl⟩⟩) | (go_at_call 47; refine (take_inWord w0 _ g (some ad) c l p line col v xs hl (by omega) hcol0 (by omega) HR0.out hc0 (HR.out.drewN _)).mono ?_; rintro e w' ⟨q, S, HE0, HS0, hql, rfl, HR1⟩; have HE := Aside0.mk HE0; have HSS := Aside0.mk HS0; have HRq := Aside0.mk HR1; clear HE0 HS0 HR1 h0 h1 h2 h3 h4 f1 f2 f3 f4) | (go_at_call 37; refine (add_any w0 _ g (some ad) _ c q line (col + (q - p)) v xs 1 0 col S hxl HRq.out).mono ?_; rintro e w' ⟨rfl, v', HR2⟩; have HRr := Aside0.mk HR2; clear HR2))
 go_ret
 unfold NextPost
 rw [HD.out, HP.out]
 refine ⟨rfl, HRr.out.2.2.1, fun _ => ⟨v', ?_⟩⟩
 rw [← HD.out]
 rw [if_neg Bool.false_ne_true, if_neg Bool.false_ne_true]
 have hq := HE.out
 rw [← hq] at HRr
 have := HRr.out
 rw [HSS.out] at this
 simp only [tokL]
 rw [show ((p + ((l.drop p).takeWhile wdB).length : Nat) : Int) - (p : Int) = (((l.drop p).takeWhile wdB).length : Int) from by omega] at this
 exact this
set_option maxHeartbeats 1000000 in
set_option maxRecDepth 100000 in
theorem next_number (w0 w : World) (g : Nat) (A : Option Addr) (c : Nat) (l : List Int) (p : Nat) (line : Int) (col : Int) (v : Value) (xs : List S61)
  (hl : l.length ≤ 5000000) (hp : p < l.length) (hb : okBytes l = true) (hli0 : 0 ≤ line) (hli1 : line ≤ 10000000) (hcol0 : 0 ≤ col) (hcol1 : col ≤ 9000000) (hxl : xs.length ≤ 10000000) (hr0 : Kd.C (Kd.int .u8) w0 A l.length l) (hc0 : l.length ≤ c) (hR : Rdr w0 w g A l.length c p line col v xs)
  (hs : smB (rd l p) = false) (hg : dgB (rd l p) = true) (n : Int) (hv : valGo 0 ((l.drop p).takeWhile dgB) = some n) :
  Calls Tryd.prog 36 #[.pointer (some ⟨g, 0, none⟩)] w (NextPost w0 g A c l p line col xs) := by
 obtain ⟨h0, h1, h2, h3, h4, f1, f2, f3, f4⟩ := hR.cells
 have HD := Aside0.mk (drop_rd l p hp)
 have HR := Aside0.mk hR
 have HR0 := Aside0.mk hr0
 obtain ⟨ad, e, hc⟩ := Kd.at_int hr0 (p : Int) (by omega) (by omega)
 cases e
 replace hc := (hR.2.2.1.cell (World.block_lt_of_cell? w0 _ hc)).trans hc
 simp only [Int.toNat_natCast] at hc
 have hby := rd_ok hb p hp
 obtain ⟨y, hy⟩ : ∃ y, rd l p = y := ⟨_, rfl⟩
 rw [hy] at hc HD hby
 have HYD := Aside0.mk hy
 have HPB := Aside0.mk hb
 clear hR hr0 hb
 rw [hy] at hs
 have HS : Aside0 (lex_small.f y = some false) := ⟨by rw [lex_small_eq, hs]⟩
 rw [hy] at hg
 have HG : Aside0 (lex_digit.f y = some true) := ⟨by rw [lex_digit_eq, hg]⟩
 have HV := Aside0.mk hv
 have HP := Aside0.mk (piece_number (s := l.drop (p + 1)) (by rw [hs]; decide) hg (by rw [← HD.out]; exact hv))
 clear hs hg hv
 clear hy
 have hd0 : decide ((p : Int) < (l.length : Int)) = true := by simp; omega
 have q0 : (0 : Int) ≤ p := by omega
 have q1 : (p : Int) < (l.length : Int) := by omega
 obtain ⟨hby0, hby1⟩ := hby
 go_enter Tryd.func36, Tryd.ntmps36
 go_wp2_with fail
 go_quiet (fail)
 go_wp2_with (first | (go_at_call 46; (with_reducible refine (lex_small.calls _ false _ HS.out).mono ?_); rintro e w' ⟨rfl, ⟨nd, rfl⟩⟩) | (go_at_call 49; (with_reducible refine (lex_digit.calls _ true _ HG.out).mono ?_); rintro e w' ⟨rfl, ⟨nd2, rfl⟩⟩) | (go_at_call 50; refine (number_any w0 _ g (some ad) c l p line col v xs _ hl (by omega) HPB.out hcol0 (by omega) hxl HR0.out hc0 (HR.out.drewN _) HV.out).mono ?_; rintro e w' ⟨rfl, HB1, HN⟩; have HBB := Aside0.mk HB1; have HNN := Aside0.mk HN; clear HB1 HN h0 h1 h2 h3 h4 f1 f2 f3 f4))
 go_ret
 unfold NextPost
 rw [HD.out, HP.out]
 obtain ⟨q, v', hq, hql, hR⟩ := HNN.out n rfl
 refine ⟨rfl, HBB.out, fun _ => ⟨v', ?_⟩⟩
 rw [← HD.out]
 rw [if_neg Bool.false_ne_true, if_neg Bool.false_ne_true]
 rw [← hq] at hR
 simp only [tokL]
 rw [show ((p + ((l.drop p).takeWhile dgB).length : Nat) : Int) - (p : Int) = (((l.drop p).takeWhile dgB).length : Int) from by omega] at hR
 exact hR
set_option maxHeartbeats 1000000 in
set_option maxRecDepth 100000 in
theorem next_over (w0 w : World) (g : Nat) (A : Option Addr) (c : Nat) (l : List Int) (p : Nat) (line : Int) (col : Int) (v : Value) (xs : List S61)
  (hl : l.length ≤ 5000000) (hp : p < l.length) (hb : okBytes l = true) (hli0 : 0 ≤ line) (hli1 : line ≤ 10000000) (hcol0 : 0 ≤ col) (hcol1 : col ≤ 9000000) (hxl : xs.length ≤ 10000000) (hr0 : Kd.C (Kd.int .u8) w0 A l.length l) (hc0 : l.length ≤ c) (hR : Rdr w0 w g A l.length c p line col v xs)
  (hs : smB (rd l p) = false) (hg : dgB (rd l p) = true) (hv : valGo 0 ((l.drop p).takeWhile dgB) = none) :
  Calls Tryd.prog 36 #[.pointer (some ⟨g, 0, none⟩)] w (NextPost w0 g A c l p line col xs) := by
 obtain ⟨h0, h1, h2, h3, h4, f1, f2, f3, f4⟩ := hR.cells
 have HD := Aside0.mk (drop_rd l p hp)
 have HR := Aside0.mk hR
 have HR0 := Aside0.mk hr0
 obtain ⟨ad, e, hc⟩ := Kd.at_int hr0 (p : Int) (by omega) (by omega)
 cases e
 replace hc := (hR.2.2.1.cell (World.block_lt_of_cell? w0 _ hc)).trans hc
 simp only [Int.toNat_natCast] at hc
 have hby := rd_ok hb p hp
 obtain ⟨y, hy⟩ : ∃ y, rd l p = y := ⟨_, rfl⟩
 rw [hy] at hc HD hby
 have HYD := Aside0.mk hy
 have HPB := Aside0.mk hb
 clear hR hr0 hb
 rw [hy] at hs
 have HS : Aside0 (lex_small.f y = some false) := ⟨by rw [lex_small_eq, hs]⟩
 rw [hy] at hg
 have HG : Aside0 (lex_digit.f y = some true) := ⟨by rw [lex_digit_eq, hg]⟩
 have HV := Aside0.mk hv
 have HP := Aside0.mk (piece_over (s := l.drop (p + 1)) (by rw [hs]; decide) hg (by rw [← HD.out]; exact hv))
 clear hs hg hv
 clear hy
 have hd0 : decide ((p : Int) < (l.length : Int)) = true := by simp; omega
 have q0 : (0 : Int) ≤ p := by omega
 have q1 : (p : Int) < (l.length : Int) := by omega
 obtain ⟨hby0, hby1⟩ := hby
 go_enter Tryd.func36, Tryd.ntmps36
 go_wp2_with fail
 go_quiet (fail)
 go_wp2_with (first | (go_at_call 46; (with_reducible refine (lex_small.calls _ false _ HS.out).mono ?_); rintro e w' ⟨rfl, ⟨nd, rfl⟩⟩) | (go_at_call 49; (with_reducible refine (lex_digit.calls _ true _ HG.out).mono ?_); rintro e w' ⟨rfl, ⟨nd2, rfl⟩⟩) | (go_at_call 50; refine (number_any w0 _ g (some ad) c l p line col v xs _ hl (by omega) HPB.out hcol0 (by omega) hxl HR0.out hc0 (HR.out.drewN _) HV.out).mono ?_; rintro e w' ⟨rfl, HB1, HN⟩; have HBB := Aside0.mk HB1; have HNN := Aside0.mk HN; clear HB1 HN h0 h1 h2 h3 h4 f1 f2 f3 f4))
 go_ret
 unfold NextPost
 rw [HD.out, HP.out]
 exact ⟨rfl, HBB.out, fun h => absurd h (by decide)⟩
set_option maxHeartbeats 1000000 in
set_option maxRecDepth 100000 in
theorem next_line (w0 w : World) (g : Nat) (A : Option Addr) (c : Nat) (l : List Int) (p : Nat) (line : Int) (col : Int) (v : Value) (xs : List S61)
  (hl : l.length ≤ 5000000) (hp : p < l.length) (hb : okBytes l = true) (hli0 : 0 ≤ line) (hli1 : line ≤ 10000000) (hcol0 : 0 ≤ col) (hcol1 : col ≤ 9000000) (hxl : xs.length ≤ 10000000) (hr0 : Kd.C (Kd.int .u8) w0 A l.length l) (hc0 : l.length ≤ c) (hR : Rdr w0 w g A l.length c p line col v xs)
  (hk : rd l p = 10) :
  Calls Tryd.prog 36 #[.pointer (some ⟨g, 0, none⟩)] w (NextPost w0 g A c l p line col xs) := by
 obtain ⟨h0, h1, h2, h3, h4, f1, f2, f3, f4⟩ := hR.cells
 have HD := Aside0.mk (drop_rd l p hp)
 have HR := Aside0.mk hR
 have HR0 := Aside0.mk hr0
 obtain ⟨ad, e, hc⟩ := Kd.at_int hr0 (p : Int) (by omega) (by omega)
 cases e
 replace hc := (hR.2.2.1.cell (World.block_lt_of_cell? w0 _ hc)).trans hc
 simp only [Int.toNat_natCast] at hc
 have hby := rd_ok hb p hp
 obtain ⟨y, hy⟩ : ∃ y, rd l p = y := ⟨_, rfl⟩
 rw [hy] at hc HD hby
 have HYD := Aside0.mk hy
 have HPB := Aside0.mk hb
 clear hR hr0 hb
 have hsb : smB (rd l p) = false := by rw [hk]; rfl
 have hgb : dgB (rd l p) = false := by rw [hk]; rfl
 rw [hy] at hsb hgb hk
 have HS : Aside0 (lex_small.f y = some false) := ⟨by rw [lex_small_eq, hsb]⟩
 have HG : Aside0 (lex_digit.f y = some false) := ⟨by rw [lex_digit_eq, hgb]⟩
 clear hsb hgb
 subst hk
 clear hy
 have hd0 : decide ((p : Int) < (l.length : Int)) = true := by simp; omega
 have q0 : (0 : Int) ≤ p := by omega
 have q1 : (p : Int) < (l.length : Int) := by omega
 obtain ⟨hby0, hby1⟩ := hby
 go_enter Tryd.func36, Tryd.ntmps36
 go_wp2_with fail
 go_quiet (fail)
 go_wp2_with (first | (go_at_call 46; (with_reducible refine (lex_small.calls _ false _ HS.out).mono ?_); rintro e w' ⟨rfl, ⟨nd, rfl⟩⟩) | (go_at_call 49; (with_reducible refine (lex_digit.calls _ false _ HG.out).mono ?_); rintro e w' ⟨rfl, ⟨nd2, rfl⟩⟩) | (go_at_call 37; refine (add_any w0 _ g (some ad) _ c p line col v xs 3 0 col ⟨#[]⟩ hxl (HR.out.drewN _)).mono ?_; rintro e w' ⟨rfl, v', HR2⟩; have HRr := Aside0.mk HR2; clear HR2 h0 h1 h2 h3 h4 f1 f2 f3 f4; obtain ⟨h0, h1, h2, h3, h4, f1, f2, f3, f4⟩ := HRr.out.cells))
 go_region
 go_wp2
 go_ret
 unfold NextPost
 rw [HD.out, piece_line]
 refine ⟨rfl, ?_, fun _ => ⟨v', ?_⟩⟩
 ·exact (((HRr.out.drewN _).set1 _).set2 _).set3 _ |>.2.2.1
 ·rw [if_pos rfl, if_pos rfl]
  exact (((HRr.out.drewN _).set1 _).set2 _).set3 _
set_option maxHeartbeats 1000000 in
set_option maxRecDepth 100000 in
theorem next_space (w0 w : World) (g : Nat) (A : Option Addr) (c : Nat) (l : List Int) (p : Nat) (line : Int) (col : Int) (v : Value) (xs : List S61)
  (hl : l.length ≤ 5000000) (hp : p < l.length) (hb : okBytes l = true) (hli0 : 0 ≤ line) (hli1 : line ≤ 10000000) (hcol0 : 0 ≤ col) (hcol1 : col ≤ 9000000) (hxl : xs.length ≤ 10000000) (hr0 : Kd.C (Kd.int .u8) w0 A l.length l) (hc0 : l.length ≤ c) (hR : Rdr w0 w g A l.length c p line col v xs)
  (hk : rd l p = 32) :
  Calls Tryd.prog 36 #[.pointer (some ⟨g, 0, none⟩)] w (NextPost w0 g A c l p line col xs) := by
 obtain ⟨h0, h1, h2, h3, h4, f1, f2, f3, f4⟩ := hR.cells
 have HD := Aside0.mk (drop_rd l p hp)
 have HR := Aside0.mk hR
 have HR0 := Aside0.mk hr0
 obtain ⟨ad, e, hc⟩ := Kd.at_int hr0 (p : Int) (by omega) (by omega)
 cases e
 replace hc := (hR.2.2.1.cell (World.block_lt_of_cell? w0 _ hc)).trans hc
 simp only [Int.toNat_natCast] at hc
 have hby := rd_ok hb p hp
 obtain ⟨y, hy⟩ : ∃ y, rd l p = y := ⟨_, rfl⟩
 rw [hy] at hc HD hby
 have HYD := Aside0.mk hy
 have HPB := Aside0.mk hb
 clear hR hr0 hb
 have hsb : smB (rd l p) = false := by rw [hk]; rfl
 have hgb : dgB (rd l p) = false := by rw [hk]; rfl
 rw [hy] at hsb hgb hk
 have HS : Aside0 (lex_small.f y = some false) := ⟨by rw [lex_small_eq, hsb]⟩
 have HG : Aside0 (lex_digit.f y = some false) := ⟨by rw [lex_digit_eq, hgb]⟩
 clear hsb hgb
 subst hk
 clear hy
 have hd0 : decide ((p : Int) < (l.length : Int)) = true := by simp; omega
 have q0 : (0 : Int) ≤ p := by omega
 have q1 : (p : Int) < (l.length : Int) := by omega
 obtain ⟨hby0, hby1⟩ := hby
 go_enter Tryd.func36, Tryd.ntmps36
 go_wp2_with fail
 go_quiet (fail)
 go_wp2_with (first | (go_at_call 46; (with_reducible refine (lex_small.calls _ false _ HS.out).mono ?_); rintro e w' ⟨rfl, ⟨nd, rfl⟩⟩) | (go_at_call 49; (with_reducible refine (lex_digit.calls _ false _ HG.out).mono ?_); rintro e w' ⟨rfl, ⟨nd2, rfl⟩⟩))
 go_region
 go_wp2
 go_ret
 unfold NextPost
 rw [HD.out, piece_space]
 refine ⟨rfl, ?_, fun _ => ⟨v, ?_⟩⟩
 ·exact ((HR.out.drewN _).set1 _).set3 _ |>.2.2.1
 ·rw [if_neg Bool.false_ne_true, if_neg Bool.false_ne_true]
  simp only [tokL, List.append_nil]
  exact ((HR.out.drewN _).set1 _).set3 _
set_option maxHeartbeats 1000000 in
set_option maxRecDepth 100000 in
theorem next_tab (w0 w : World) (g : Nat) (A : Option Addr) (c : Nat) (l : List Int) (p : Nat) (line : Int) (col : Int) (v : Value) (xs : List S61)
  (hl : l.length ≤ 5000000) (hp : p < l.length) (hb : okBytes l = true) (hli0 : 0 ≤ line) (hli1 : line ≤ 10000000) (hcol0 : 0 ≤ col) (hcol1 : col ≤ 9000000) (hxl : xs.length ≤ 10000000) (hr0 : Kd.C (Kd.int .u8) w0 A l.length l) (hc0 : l.length ≤ c) (hR : Rdr w0 w g A l.length c p line col v xs)
  (hk : rd l p = 9) :
  Calls Tryd.prog 36 #[.pointer (some ⟨g, 0, none⟩)] w (NextPost w0 g A c l p line col xs) := by
 obtain ⟨h0, h1, h2, h3, h4, f1, f2, f3, f4⟩ := hR.cells
 have HD := Aside0.mk (drop_rd l p hp)
 have HR := Aside0.mk hR
 have HR0 := Aside0.mk hr0
 obtain ⟨ad, e, hc⟩ := Kd.at_int hr0 (p : Int) (by omega) (by omega)
 cases e
 replace hc := (hR.2.2.1.cell (World.block_lt_of_cell? w0 _ hc)).trans hc
 simp only [Int.toNat_natCast] at hc
 have hby := rd_ok hb p hp
 obtain ⟨y, hy⟩ : ∃ y, rd l p = y := ⟨_, rfl⟩
 rw [hy] at hc HD hby
 have HYD := Aside0.mk hy
 have HPB := Aside0.mk hb
 clear hR hr0 hb
 have hsb : smB (rd l p) = false := by rw [hk]; rfl
 have hgb : dgB (rd l p) = false := by rw [hk]; rfl
 rw [hy] at hsb hgb hk
 have HS : Aside0 (lex_small.f y = some false) := ⟨by rw [lex_small_eq, hsb]⟩
 have HG : Aside0 (lex_digit.f y = some false) := ⟨by rw [lex_digit_eq, hgb]⟩
 clear hsb hgb
 subst hk
 clear hy
 have hd0 : decide ((p : Int) < (l.length : Int)) = true := by simp; omega
 have q0 : (0 : Int) ≤ p := by omega
 have q1 : (p : Int) < (l.length : Int) := by omega
 obtain ⟨hby0, hby1⟩ := hby
 go_enter Tryd.func36, Tryd.ntmps36
 go_wp2_with fail
 go_quiet (fail)
 go_wp2_with (first | (go_at_call 46; (with_reducible refine (lex_small.calls _ false _ HS.out).mono ?_); rintro e w' ⟨rfl, ⟨nd, rfl⟩⟩) | (go_at_call 49; (with_reducible refine (lex_digit.calls _ false _ HG.out).mono ?_); rintro e w' ⟨rfl, ⟨nd2, rfl⟩⟩))
 go_region
 go_wp2
 go_ret
 unfold NextPost
 rw [HD.out, piece_tab]
 refine ⟨rfl, ?_, fun _ => ⟨v, ?_⟩⟩
 ·exact ((HR.out.drewN _).set1 _).set3 _ |>.2.2.1
 ·rw [if_neg Bool.false_ne_true, if_neg Bool.false_ne_true]
  simp only [tokL, List.append_nil]
  exact ((HR.out.drewN _).set1 _).set3 _
set_option maxHeartbeats 1000000 in
set_option maxRecDepth 100000 in
theorem next_remark (w0 w : World) (g : Nat) (A : Option Addr) (c : Nat) (l : List Int) (p : Nat) (line : Int) (col : Int) (v : Value) (xs : List S61)
  (hl : l.length ≤ 5000000) (hp : p < l.length) (hb : okBytes l = true) (hli0 : 0 ≤ line) (hli1 : line ≤ 10000000) (hcol0 : 0 ≤ col) (hcol1 : col ≤ 9000000) (hxl : xs.length ≤ 10000000) (hr0 : Kd.C (Kd.int .u8) w0 A l.length l) (hc0 : l.length ≤ c) (hR : Rdr w0 w g A l.length c p line col v xs)
  (hk : rd l p = 35) :
  Calls Tryd.prog 36 #[.pointer (some ⟨g, 0, none⟩)] w (NextPost w0 g A c l p line col xs) := by
 obtain ⟨h0, h1, h2, h3, h4, f1, f2, f3, f4⟩ := hR.cells
 have HD := Aside0.mk (drop_rd l p hp)
 have HR := Aside0.mk hR
 have HR0 := Aside0.mk hr0
 obtain ⟨ad, e, hc⟩ := Kd.at_int hr0 (p : Int) (by omega) (by omega)
 cases e
 replace hc := (hR.2.2.1.cell (World.block_lt_of_cell? w0 _ hc)).trans hc
 simp only [Int.toNat_natCast] at hc
 have hby := rd_ok hb p hp
 obtain ⟨y, hy⟩ : ∃ y, rd l p = y := ⟨_, rfl⟩
 rw [hy] at hc HD hby
 have HYD := Aside0.mk hy
 have HPB := Aside0.mk hb
 clear hR hr0 hb
 have hsb : smB (rd l p) = false := by rw [hk]; rfl
 have hgb : dgB (rd l p) = false := by rw [hk]; rfl
 rw [hy] at hsb hgb hk
 have HS : Aside0 (lex_small.f y = some false) := ⟨by rw [lex_small_eq, hsb]⟩
 have HG : Aside0 (lex_digit.f y = some false) := ⟨by rw [lex_digit_eq, hgb]⟩
 clear hsb hgb
 subst hk
 clear hy
 have hd0 : decide ((p : Int) < (l.length : Int)) = true := by simp; omega
 have q0 : (0 : Int) ≤ p := by omega
 have q1 : (p : Int) < (l.length : Int) := by omega
 obtain ⟨hby0, hby1⟩ := hby
 go_enter Tryd.func36, Tryd.ntmps36
 go_wp2_with fail
 go_quiet (fail)
 go_wp2_with (first | (go_at_call 46; (with_reducible refine (lex_small.calls _ false _ HS.out).mono ?_); rintro e w' ⟨rfl, ⟨nd, rfl⟩⟩) | (go_at_call 49; (with_reducible refine (lex_digit.calls _ false _ HG.out).mono ?_); rintro e w' ⟨rfl, ⟨nd2, rfl⟩⟩) | (go_at_call 47; refine (take_inRemark w0 _ g (some ad) c l p line col v xs hl (by omega) hcol0 (by omega) HR0.out hc0 (HR.out.drewN _)).mono ?_; rintro e w' ⟨q, S, HE0, HS0, hql, rfl, HR1⟩; have HE := Aside0.mk HE0; have HRq := Aside0.mk HR1; clear HE0 HS0 HR1 h0 h1 h2 h3 h4 f1 f2 f3 f4))
 go_ret
 unfold NextPost
 have hq := HE.out
 rw [HD.out] at hq
 rw [HD.out, piece_remark]
 refine ⟨rfl, HRq.out.2.2.1, fun _ => ⟨v, ?_⟩⟩
 rw [if_neg Bool.false_ne_true, if_neg Bool.false_ne_true]
 simp only [tokL, List.append_nil]
 rw [← hq] at HRq
 have := HRq.out
 rw [show ((p + ((35 :: l.drop (p + 1)).takeWhile rkB).length : Nat) : Int) - (p : Int) = (((35 :: l.drop (p + 1)).takeWhile rkB).length : Int) from by omega] at this
 exact this
set_option maxHeartbeats 1000000 in
set_option maxRecDepth 100000 in
theorem next_bad (w0 w : World) (g : Nat) (A : Option Addr) (c : Nat) (l : List Int) (p : Nat) (line : Int) (col : Int) (v : Value) (xs : List S61)
  (hl : l.length ≤ 5000000) (hp : p < l.length) (hb : okBytes l = true) (hli0 : 0 ≤ line) (hli1 : line ≤ 10000000) (hcol0 : 0 ≤ col) (hcol1 : col ≤ 9000000) (hxl : xs.length ≤ 10000000) (hr0 : Kd.C (Kd.int .u8) w0 A l.length l) (hc0 : l.length ≤ c) (hR : Rdr w0 w g A l.length c p line col v xs)
  (hsb : smB (rd l p) = false) (hgb : dgB (rd l p) = false) (k1 : rd l p ≠ 10) (k2 : rd l p ≠ 32) (k3 : rd l p ≠ 9) (k4 : rd l p ≠ 35) :
  Calls Tryd.prog 36 #[.pointer (some ⟨g, 0, none⟩)] w (NextPost w0 g A c l p line col xs) := by
 obtain ⟨h0, h1, h2, h3, h4, f1, f2, f3, f4⟩ := hR.cells
 have HD := Aside0.mk (drop_rd l p hp)
 have HR := Aside0.mk hR
 have HR0 := Aside0.mk hr0
 obtain ⟨ad, e, hc⟩ := Kd.at_int hr0 (p : Int) (by omega) (by omega)
 cases e
 replace hc := (hR.2.2.1.cell (World.block_lt_of_cell? w0 _ hc)).trans hc
 simp only [Int.toNat_natCast] at hc
 have hby := rd_ok hb p hp
 obtain ⟨y, hy⟩ : ∃ y, rd l p = y := ⟨_, rfl⟩
 rw [hy] at hc HD hby
 have HYD := Aside0.mk hy
 have HPB := Aside0.mk hb
 clear hR hr0 hb
 rw [hy] at hsb hgb k1 k2 k3 k4
 have HS : Aside0 (lex_small.f y = some false) := ⟨by rw [lex_small_eq, hsb]⟩
 have HG : Aside0 (lex_digit.f y = some false) := ⟨by rw [lex_digit_eq, hgb]⟩
 have HP := Aside0.mk (piece_bad (s := l.drop (p + 1)) (by rw [hsb]; decide) (by rw [hgb]; decide) k1 k2 k3 k4)
 clear hsb hgb
 replace k1 : (y == 10) = false := beq_eq_false_iff_ne.mpr k1
 replace k2 : (y == 32) = false := beq_eq_false_iff_ne.mpr k2
 replace k3 : (y == 9) = false := beq_eq_false_iff_ne.mpr k3
 replace k4 : (y == 35) = false := beq_eq_false_iff_ne.mpr k4
 clear hy
 have hd0 : decide ((p : Int) < (l.length : Int)) = true := by simp; omega
 have q0 : (0 : Int) ≤ p := by omega
 have q1 : (p : Int) < (l.length : Int) := by omega
 obtain ⟨hby0, hby1⟩ := hby
 go_enter Tryd.func36, Tryd.ntmps36
 go_wp2_with fail
 go_quiet (fail)
 go_wp2_with (first | (go_at_call 46; (with_reducible refine (lex_small.calls _ false _ HS.out).mono ?_); rintro e w' ⟨rfl, ⟨nd, rfl⟩⟩) | (go_at_call 49; (with_reducible refine (lex_digit.calls _ false _ HG.out).mono ?_); rintro e w' ⟨rfl, ⟨nd2, rfl⟩⟩))
 go_ret
 unfold NextPost
 rw [HD.out, HP.out]
 exact ⟨rfl, (HR.out.drewN _).2.2.1, fun h => absurd h (by decide)⟩
theorem next_any (w0 w : World) (g : Nat) (A : Option Addr) (c : Nat) (l : List Int) (p : Nat) (line : Int) (col : Int) (v : Value) (xs : List S61)
  (hl : l.length ≤ 5000000) (hp : p < l.length) (hb : okBytes l = true) (hli0 : 0 ≤ line) (hli1 : line ≤ 10000000) (hcol0 : 0 ≤ col) (hcol1 : col ≤ 9000000) (hxl : xs.length ≤ 10000000) (hr0 : Kd.C (Kd.int .u8) w0 A l.length l) (hc0 : l.length ≤ c) (hR : Rdr w0 w g A l.length c p line col v xs) :
  Calls Tryd.prog 36 #[.pointer (some ⟨g, 0, none⟩)] w (NextPost w0 g A c l p line col xs) := by
 have hd := drop_rd l p hp
 rcases piece_ways (rd l p) (l.drop (p + 1)) with h | ⟨h1, h2, ⟨n, h⟩ | h⟩ | h | h | h | h | ⟨h1, h2, h3, h4, h5, h6⟩
 ·exact next_word w0 w g A c l p line col v xs hl hp hb hli0 hli1 hcol0 hcol1 hxl hr0 hc0 hR h
 ·exact next_number w0 w g A c l p line col v xs hl hp hb hli0 hli1 hcol0 hcol1 hxl hr0 hc0 hR (Bool.eq_false_iff.mpr h1) h2 n (by rw [hd]; exact h)
 ·exact next_over w0 w g A c l p line col v xs hl hp hb hli0 hli1 hcol0 hcol1 hxl hr0 hc0 hR (Bool.eq_false_iff.mpr h1) h2 (by rw [hd]; exact h)
 ·exact next_line w0 w g A c l p line col v xs hl hp hb hli0 hli1 hcol0 hcol1 hxl hr0 hc0 hR h
 ·exact next_space w0 w g A c l p line col v xs hl hp hb hli0 hli1 hcol0 hcol1 hxl hr0 hc0 hR h
 ·exact next_tab w0 w g A c l p line col v xs hl hp hb hli0 hli1 hcol0 hcol1 hxl hr0 hc0 hR h
 ·exact next_remark w0 w g A c l p line col v xs hl hp hb hli0 hli1 hcol0 hcol1 hxl hr0 hc0 hR h
 ·exact next_bad w0 w g A c l p line col v xs hl hp hb hli0 hli1 hcol0 hcol1 hxl hr0 hc0 hR (Bool.eq_false_iff.mpr h1) (Bool.eq_false_iff.mpr h2) h3 h4 h5 h6
end Go.Proofs.YtadfcdpalcgghaaDoor.Q
