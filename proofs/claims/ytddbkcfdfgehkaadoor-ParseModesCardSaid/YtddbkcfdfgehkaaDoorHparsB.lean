-- The parser's line ends, blank lines, numbers and modes: walked by hand.
-- NEEDS slices.Index[[]string,string]
import Derived.Test.YtddbkcfdfgehkaaDoorQ0
import Derived.Test.YtddbkcfdfgehkaaDoorQ4
import Derived.Test.YtddbkcfdfgehkaaDoorHpars
import Derived.Test.YtddbkcfdfgehkaaDoorLpars
import Derived.Test.YtddbkcfdfgehkaaDoorLparsB
import Derived.Test.YtddbkcfdfgehkaaDoorHpars
namespace Go.Proofs.YtddbkcfdfgehkaaDoor.Q
open Go.RowKit Go.Proofs.YtddbkcfdfgehkaaDoorW.PrintWords Go.Proofs.YtddbkcfdfgehkaaDoorW.PrintLast Go.Proofs.YtddbkcfdfgehkaaDoorW.PrintMore
attribute [local go_sem] max2_int min2_int max_two min_two max_three min_three max_four min_four   -- for this text's walks alone
set_option linter.unusedVariables false
set_option linter.unusedSimpArgs false

attribute [local go_sem] tok_f1 tok_f2 tok_f3 tok_f4
theorem tok_f0 (a : Int) (b : ByteArray) (c d e : Int) (w : World) : (Instr.field 46 (.agg #[.int .i64 a, .string b, .int .i64 c, .int .i64 d, .int .i64 e]) 0).run Tryd.prog w = .ok (.int .i64 a) w := by kernel_rfl
attribute [local go_sem] tok_f0
/-- The last token is the text's end. -/
def Ends (l : List TOK) : Prop := ∃ r t, l = r ++ [t] ∧ t.f0 = 4
theorem Ends.ne {l : List TOK} (h : Ends l) : l ≠ [] := by
  obtain ⟨r, t, rfl, _⟩ := h
  simp
theorem Ends.tail {l : List TOK} (h : Ends l) (hn : (l.headD z46).f0 ≠ 4) : Ends l.tail := by
  obtain ⟨r, t, rfl, ht⟩ := h
  cases r with
  | nil => exact absurd ht (by simpa using hn)
  | cons a r => exact ⟨r, t, rfl, ht⟩
theorem take_ends {p : PS} (h : Ends p.l) (kind : Int) (hk : kind ≠ 4) (texts : List ByteArray) : Ends (p.take kind texts).1.l := by
  unfold PS.take
  by_cases hf : p.fits kind texts = true
  · rw [if_pos hf]
    have : p.now.f0 = kind := by unfold PS.fits at hf; simp at hf; exact hf.1.2
    exact h.tail (by rw [show p.l.headD z46 = p.now from rfl, this]; exact hk)
  · rw [if_neg hf]
    unfold PS.fail
    split <;> exact h
theorem kept_trans {W W1 W2 : World} {S : Nat → Prop} (h1 : Kept W W1 S) (h2 : Kept W1 W2 S) : Kept W W2 S := ⟨Nat.le_trans h1.1 h2.1, fun i hi hn => (h2.2 i (Nat.lt_of_lt_of_le hi h1.1) hn).trans (h1.2 i hi hn)⟩
theorem kept_mono {W W1 : World} {S S' : Nat → Prop} (h : Kept W W1 S) (hs : ∀ k, S k → S' k) : Kept W W1 S' := ⟨h.1, fun i hi hn => h.2 i hi (fun h => hn (hs i h))⟩
section
variable {w0 W W' : World} {ok : Nat → Prop} {g : Nat} {A : Option Addr} {c : Nat} {vts vhs : Value} {p : PS}
theorem fin_ends (h : Ends p.l) : Ends p.fin.l := by
  unfold PS.fin
  split
  · exact h
  · exact take_ends h 3 (by omega) []
set_option maxHeartbeats 1000000 in
set_option maxRecDepth 100000 in
theorem fin_ask (h : PrsX w0 ok W g A c vts vhs p) (hl : Ends p.l) :
    Calls Tryd.prog 33 #[.pointer (some ⟨g, 0, none⟩)] W fun e W' => e = .returned (.tuple #[]) ∧ (∃ A' c', PrsX w0 ok W' g A' c' vts vhs p.fin) ∧ Kept W W' (fun k => k = g) := by
  have x1 : W.cell? ⟨g, 1, none⟩ = some (.int .i64 p.e) := blk_cell h.1 1
  have HX := Aside0.mk h
  have HL := Aside0.mk hl
  have HTK := fun (W1 : World) (h1 : PrsX w0 ok W1 g A c vts vhs p) => take_ask h1 hl.ne 3 none 0 [] (Kd.C_nil _ _) (Nat.le_refl _) (Nat.zero_le _)
  have HTT := Aside0.mk HTK
  clear h hl HTK
  by_cases he : p.e = 0
  · rw [he] at x1
    have HE := Aside0.mk he
    clear he
    go_enter Tryd.func33, Tryd.ntmps33
    go_wp2_with fail
    refine (now_ask HX.out HL.out.ne).mono ?_
    rintro e wA ⟨rfl, hb⟩
    have HXA := Aside0.mk (HX.out.below hb)
    have HBA := Aside0.mk hb
    unfold tokC
    clear hb x1
    by_cases h4 : p.now.f0 = 4
    · have h4b : (p.now.f0 == 4) = true := beq_iff_eq.2 h4
      have H4 := Aside0.mk h4
      clear h4
      go_wp2_with fail
      first | go_end0 | ((try simp only [Exit.inBlock, Exit.then]); refine bodyPost_ret (results_none rfl _ _ _) rfl ?_)
      exact ⟨rfl, ⟨A, c, by unfold PS.fin; rw [if_pos ⟨HE.out, H4.out⟩]; exact HXA.out⟩, Kept.of_below HBA.out _⟩
    · have h4b : (p.now.f0 == 4) = false := beq_eq_false_iff_ne.2 h4
      go_wp2_with fail
      refine (HTT.out wA HXA.out).mono ?_
      rintro e wB ⟨rfl, hX, hk⟩
      have HXB := Aside0.mk hX
      have HKB := Aside0.mk (kept_trans (Kept.of_below HBA.out (fun k => k = g)) hk)
      have H4 := Aside0.mk h4
      clear hX hk
      go_wp2_with fail
      first | go_end0 | ((try simp only [Exit.inBlock, Exit.then]); refine bodyPost_ret (results_none rfl _ _ _) rfl ?_)
      refine ⟨rfl, ?_, HKB.out⟩
      unfold PS.fin; rw [if_neg (fun h => H4.out h.2)]; exact HXB.out
  · have hne : (p.e == 0) = false := beq_eq_false_iff_ne.2 he
    go_enter Tryd.func33, Tryd.ntmps33
    go_wp2_with fail
    refine (HTT.out W HX.out).mono ?_
    rintro e wB ⟨rfl, hX, hk⟩
    have HXB := Aside0.mk hX
    have HKB := Aside0.mk hk
    have HE := Aside0.mk he
    clear hX hk
    go_wp2_with fail
    first | go_end0 | ((try simp only [Exit.inBlock, Exit.then]); refine bodyPost_ret (results_none rfl _ _ _) rfl ?_)
    refine ⟨rfl, ?_, HKB.out⟩
    unfold PS.fin; rw [if_neg (fun h => HE.out h.1)]; exact HXB.out
set_option maxHeartbeats 1000000 in
set_option maxRecDepth 100000 in
theorem blank_ask (h : PrsX w0 ok W g A c vts vhs p) (hl : Ends p.l) :
    Calls Tryd.prog 17 #[.pointer (some ⟨g, 0, none⟩)] W fun e W' => e = .returned (.tuple #[]) ∧ (∃ A' c', PrsX w0 ok W' g A' c' vts vhs p.blank) ∧ Ends p.blank.l ∧ Kept W W' (fun k => k = g) := by
  have HX := Aside0.mk h
  have HL := Aside0.mk hl
  clear h hl
  go_enter Tryd.func17, Tryd.ntmps17
  go_wp2
  go_loopg [] p.l.length (fun kq wr => ∃ (A1 : Option Addr) (c1 : Nat) (l1 : List TOK), Aside0 (kq = l1.length) ∧ Aside0 (PrsX w0 ok wr g A1 c1 vts vhs { p with l := l1 }) ∧ Aside0 (Ends l1) ∧ Aside0 (l1.dropWhile (fun t => t.f0 == 3) = p.l.dropWhile (fun t => t.f0 == 3)) ∧ Aside0 (Kept W wr (fun k => k = g)))
  case atStart => exact ⟨A, c, p.l, ⟨rfl⟩, HX, HL, ⟨rfl⟩, ⟨Kept.refl _ _⟩⟩
  case round =>
    clear HX HL
    obtain ⟨A1, c1, l1, HN, HX, HL, HD, HK⟩ := hrel
    obtain ⟨t, r, hlr⟩ : ∃ t r, l1 = t :: r := by
      cases hl1 : l1 with
      | nil => exact absurd hl1 HL.out.ne
      | cons t r => exact ⟨t, r, rfl⟩
    subst hlr
    go_wp2_with fail
    refine (now_ask HX.out HL.out.ne).mono ?_
    rintro e wA ⟨rfl, hb⟩
    have HXA := Aside0.mk (HX.out.below hb)
    have HKA := Aside0.mk (kept_trans HK.out (Kept.of_below hb (fun k => k = g)))
    rw [show ({ p with l := t :: r } : PS).now = t from rfl]
    unfold tokC
    clear hb HX HK
    by_cases h3 : t.f0 = 3
    · have h3b : (t.f0 == 3) = true := beq_iff_eq.2 h3
      have H3 := Aside0.mk h3
      have x0 : wA.cell? ⟨g, 0, none⟩ = some (.slice A1 (r.length + 1) c1) := blk_cell HXA.out.1 0
      have g0 := blk_frozen HXA.out.1 0
      obtain ⟨iT, hiT, hsT⟩ := infoTok
      have hcut := cut_from (P := Tryd.prog) 41 46 .i64 Tryd.underlying41 hiT 5 hsT A1 (r.length + 1) c1 (1 : Int) (by omega) (by omega)
      simp only [show (1 : Int).toNat = 1 from rfl, Nat.one_mul, Nat.add_sub_cancel] at hcut
      obtain ⟨A4, hA4⟩ : ∃ A4, (if c1 = 1 then A1 else A1.map (·.add 5)) = A4 := ⟨_, rfl⟩
      rw [hA4] at hcut
      have HCT : Aside0 (Kd.C k46 w0 A4 r.length r) := ⟨by
        have h := Kd.C_drop (c := c1) (m := 1) HXA.out.2.2.2.1 (by simp) HXA.out.2.2.1
        have e1 : (if c1 = 1 then A1 else A1.map (·.add (1 * (k46).sz))) = A4 := hA4
        rw [e1] at h
        exact h⟩
      clear hA4 h3
      go_wp2_with fail
      go_roundg r.length
      case measure => have := HN.out; simp at this; omega
      case rel =>
        refine ⟨A4, c1 - 1, r, ⟨rfl⟩, ⟨HXA.out.put 0 (.slice A4 r.length (c1 - 1)) (A' := A4) (c' := c1 - 1) (p' := { p with l := r }) rfl (by have := HXA.out.2.2.1; simp at this; show r.length ≤ c1 - 1; omega) HCT.out rfl rfl⟩, ⟨HL.out.tail (by rw [show (t :: r).headD z46 = t from rfl, H3.out]; omega)⟩, ⟨by rw [← HD.out, List.dropWhile_cons, if_pos (by rw [H3.out]; rfl)]⟩, ⟨HKA.out.setCell (p := ⟨g, 0, none⟩) (.inl rfl) _⟩⟩
    · have h3b : (t.f0 == 3) = false := beq_eq_false_iff_ne.2 h3
      have HB : Aside0 (p.blank = { p with l := t :: r }) := ⟨by unfold PS.blank; rw [← HD.out, List.dropWhile_cons, if_neg (by rw [h3b]; decide)]⟩
      go_wp2_with fail
      first | go_end0 | ((try simp only [Exit.inBlock, Exit.then]); refine bodyPost_ret (results_none rfl _ _ _) rfl ?_)
      rw [HB.out]
      exact ⟨rfl, ⟨A1, c1, HXA.out⟩, HL.out, HKA.out⟩
theorem idx_modes (s : ByteArray) : idxGo [⟨#[]⟩, wRetry, wBlock, wBackup] s 0 = if s = ⟨#[]⟩ then 0 else if modeOf s = 0 then -1 else modeOf s := by
  have he : ∀ y : ByteArray, (s.toList = y.toList) ↔ s = y := fun y => by
    constructor
    · intro h
      rw [Lib.toList_data, Lib.toList_data] at h
      cases s with | mk x => cases y with | mk z =>
      simp only at h
      rw [Array.toList_inj.1 h]
    · rintro rfl; rfl
  simp only [idxGo, he]
  unfold modeOf
  by_cases h0 : s = ⟨#[]⟩
  · rw [if_pos h0, if_pos h0]
  · rw [if_neg h0, if_neg h0]
    by_cases h1 : s = wRetry
    · simp [h1]
    · by_cases h2 : s = wBlock
      · have e1 : ¬ wBlock = wRetry := fun e => h1 (h2.trans e)
        simp [h2, e1]
      · by_cases h3 : s = wBackup
        · have e1 : ¬ wBackup = wRetry := fun e => h1 (h3.trans e)
          have e2 : ¬ wBackup = wBlock := fun e => h2 (h3.trans e)
          simp [h3, e1, e2]
        · simp [h1, h2, h3]
theorem modes_C (W : World) : Kd.C Kd.string (W.alloc (.cells #[.string ⟨#[]⟩, .string wRetry, .string wBlock, .string wBackup] 9 (0, 0))) (some ⟨W.heap.size, 0, none⟩) 4 [⟨#[]⟩, wRetry, wBlock, wBackup] := by
  refine ⟨rfl, by omega, fun _ => ⟨_, rfl, fun j q hj => ⟨[.string q], rfl, rfl, fun i u hu => ?_⟩⟩⟩
  obtain ⟨rfl, rfl⟩ : i = 0 ∧ u = .string q := by
    cases i with
    | zero => exact ⟨rfl, by simpa using hu.symm⟩
    | succ i => simp at hu
  have hb := blk_cell (blk_new W (.cells #[.string ⟨#[]⟩, .string wRetry, .string wBlock, .string wBackup] 9 (0, 0))) j
  have e : (⟨W.heap.size, 0, none⟩ : Addr).add (j * Kd.string.sz + 0) = ⟨W.heap.size, j, none⟩ := by
    rw [show j * Kd.string.sz + 0 = j by simp [Kd.string, Kd.scalar], add_at, Nat.zero_add]
  rw [e, hb]
  match j, hj with
  | 0, hj => simpa using hj
  | 1, hj => simpa using hj
  | 2, hj => simpa using hj
  | 3, hj => simpa using hj
set_option maxRecDepth 100000 in
theorem modes_ask (W : World) : Calls Tryd.prog 28 #[] W fun e W' => e = .returned (.slice (some ⟨W.heap.size, 0, none⟩) 4 4) ∧ W' = W.alloc (.cells #[.string ⟨#[]⟩, .string wRetry, .string wBlock, .string wBackup] 9 (0, 0)) := by
  go_enter Tryd.func28, Tryd.ntmps28
  go_wp2
  go_ret
  exact ⟨rfl, rfl⟩
theorem modeOf_range (s : ByteArray) : 0 ≤ modeOf s ∧ modeOf s ≤ 3 := by
  unfold modeOf
  split
  · omega
  · split
    · omega
    · split <;> omega
set_option maxHeartbeats 1000000 in
set_option maxRecDepth 100000 in
theorem mode_ask (s : ByteArray) (W : World) :
    Calls Tryd.prog 14 #[.string s] W fun e W' => e = .returned (.int .i64 (modeOf s)) ∧ Below W.heap.size W W' := by
  have HC := Aside0.mk (modes_C W)
  have hb1 : Below W.heap.size W (W.alloc (.cells #[.string ⟨#[]⟩, .string wRetry, .string wBlock, .string wBackup] 9 (0, 0))) := below_alloc (Below.refl _ _) _
  have HB := Aside0.mk hb1
  clear hb1
  obtain ⟨r, hr⟩ : ∃ r, idxGo [⟨#[]⟩, wRetry, wBlock, wBackup] s 0 = r := ⟨_, rfl⟩
  have HR := Aside0.mk hr
  have hr2 := idx_modes s
  rw [hr] at hr2
  obtain ⟨m0, m3⟩ := modeOf_range s
  clear hr
  obtain ⟨bs, hbs⟩ : ∃ bs, s.toList.isEmpty = bs := ⟨_, rfl⟩
  have hse : bs = true ↔ s = ⟨#[]⟩ := by
    rw [← hbs, Lib.toList_data]
    constructor
    · intro h
      cases s with | mk x =>
      simp at h
      rw [h]
    · rintro rfl; rfl
  have HRES : Aside0 ((bs = true ∧ modeOf s = 0) ∨ (bs = false ∧ r < 0 ∧ modeOf s = 0) ∨ (bs = false ∧ 0 ≤ r ∧ modeOf s = r)) := ⟨by
    by_cases h0 : s = ⟨#[]⟩
    · exact .inl ⟨hse.2 h0, by rw [h0]; kernel_rfl⟩
    · have hb : bs = false := by cases bs with | true => exact absurd (hse.1 rfl) h0 | false => rfl
      rw [if_neg h0] at hr2
      by_cases hm : modeOf s = 0
      · rw [if_pos hm] at hr2; exact .inr (.inl ⟨hb, by omega, hm⟩)
      · rw [if_neg hm] at hr2; exact .inr (.inr ⟨hb, by omega, hr2.symm⟩)⟩
  clear hr2 hse m0 m3
  go_enter Tryd.func14, Tryd.ntmps14
  go_wp2_with fail
  refine (modes_ask W).mono ?_
  rintro e wA ⟨rfl, rfl⟩
  go_wp2_with fail
  refine (slices_Index_string_string.calls 5 _ 4 [⟨#[]⟩, wRetry, wBlock, wBackup] s r _ HC.out (by decide) (by have := idx_eq [⟨#[]⟩, wRetry, wBlock, wBackup] s (by decide); rw [HR.out] at this; exact this)).mono ?_
  rintro e wB ⟨rfl, hd⟩
  have HB2 := Aside0.mk (below_step HB.out hd.below)
  clear hd HB HC
  rcases HRES.out with ⟨h1, h2⟩ | ⟨h1, h2, h3⟩ | ⟨h1, h2, h3⟩
  · subst h1
    have H2 := Aside0.mk h2
    clear h2
    go_wp2_with fail
    go_ret
    exact ⟨by rw [H2.out]; rfl, HB2.out⟩
  · subst h1
    have hlt : decide (r < 0) = true := decide_eq_true h2
    have H2 := Aside0.mk h3
    clear h3
    go_wp2_with fail
    go_ret
    exact ⟨by rw [H2.out]; rfl, HB2.out⟩
  · subst h1
    have hlt : decide (r < 0) = false := decide_eq_false (by omega)
    have H2 := Aside0.mk h3
    clear h3
    go_wp2_with fail
    go_ret
    exact ⟨by rw [H2.out]; rfl, HB2.out⟩
end
end Go.Proofs.YtddbkcfdfgehkaaDoor.Q
