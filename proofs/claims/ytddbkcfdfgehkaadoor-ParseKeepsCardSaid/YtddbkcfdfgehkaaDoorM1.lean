-- Texts of this claim, put together: HparsB, HparsC, LparsT.
import Derived.Test.YtddbkcfdfgehkaaDoorM0
-- The parser's line ends, blank lines, numbers and modes: walked by hand.
namespace Go.Proofs.YtddbkcfdfgehkaaDoor.Q
open Go.RowKit Go.Proofs.YtddbkcfdfgehkaaDoorW.PrintWords Go.Proofs.YtddbkcfdfgehkaaDoorW.PrintLast Go.Proofs.YtddbkcfdfgehkaaDoorW.PrintMore
attribute [local go_sem] max2_int min2_int max_two min_two max_three min_three max_four min_four   -- for this text's walks alone
set_option linter.unusedVariables false
set_option linter.unusedSimpArgs false

attribute [local go_sem] tok_f1 tok_f2 tok_f3 tok_f4
theorem tok_f0 (a : Int) (b : ByteArray) (c d e : Int) (w : World) : (Instr.field 46 (.agg #[.int .i64 a, .string b, .int .i64 c, .int .i64 d, .int .i64 e]) 0).run Tryd.prog w = .ok (.int .i64 a) w := by kernel_rfl
attribute [local go_sem] tok_f0
/-- The last token is the text's end. -/
def Ends (l : List TOK) : Prop := ∃ r t, l = r ++ [t] ∧ t.f0 = 4
theorem Ends.ne {l : List TOK} (h : Ends l) : l ≠ [] := by
 obtain ⟨r, t, rfl, _⟩ := h
 simp
theorem Ends.tail {l : List TOK} (h : Ends l) (hn : (l.headD z46).f0 ≠ 4) : Ends l.tail := by
 obtain ⟨r, t, rfl, ht⟩ := h
 cases r with
 | nil => exact absurd ht (by simpa using hn)
 | cons a r => exact ⟨r, t, rfl, ht⟩
theorem take_ends {p : PS} (h : Ends p.l) (kind : Int) (hk : kind ≠ 4) (texts : List ByteArray) : Ends (p.take kind texts).1.l := by
 unfold PS.take
 by_cases hf : p.fits kind texts = true
 ·rw [if_pos hf]
  have : p.now.f0 = kind := by unfold PS.fits at hf; simp at hf; exact hf.1.2
  exact h.tail (by rw [show p.l.headD z46 = p.now from rfl, this]; exact hk)
 ·rw [if_neg hf]
  unfold PS.fail
  split <;> exact h
theorem kept_trans {W W1 W2 : World} {S : Nat → Prop} (h1 : Kept W W1 S) (h2 : Kept W1 W2 S) : Kept W W2 S := ⟨Nat.le_trans h1.1 h2.1, fun i hi hn => (h2.2 i (Nat.lt_of_lt_of_le hi h1.1) hn).trans (h1.2 i hi hn)⟩
theorem kept_mono {W W1 : World} {S S' : Nat → Prop} (h : Kept W W1 S) (hs : ∀ k, S k → S' k) : Kept W W1 S' := ⟨h.1, fun i hi hn => h.2 i hi (fun h => hn (hs i h))⟩
section
variable {w0 W W' : World} {ok : Nat → Prop} {g : Nat} {A : Option Addr} {c : Nat} {vts vhs : Value} {p : PS}
theorem fin_ends (h : Ends p.l) : Ends p.fin.l := by
 unfold PS.fin
 split
 ·exact h
 ·exact take_ends h 3 (by omega) []
set_option maxHeartbeats 1000000 in
set_option maxRecDepth 100000 in
theorem fin_ask (h : PrsX w0 ok W g A c vts vhs p) (hl : Ends p.l) :
  Calls Tryd.prog 33 #[.pointer (some ⟨g, 0, none⟩)] W fun e W' => e = .returned (.tuple #[]) ∧ (∃ A' c', PrsX w0 ok W' g A' c' vts vhs p.fin) ∧ Kept W W' (fun k => k = g) := by
 have x1 : W.cell? ⟨g, 1, none⟩ = some (.int .i64 p.e) := blk_cell h.1 1
 have HX := Aside0.mk h
 have HL := Aside0.mk hl
 have HTK := fun (W1 : World) (h1 : PrsX w0 ok W1 g A c vts vhs p) => take_ask h1 hl.ne 3 none 0 [] (Kd.C_nil _ _) (Nat.le_refl _) (Nat.zero_le _)
 have HTT := Aside0.mk HTK
 clear h hl HTK
 by_cases he : p.e = 0
 ·rw [he] at x1
  have HE := Aside0.mk he
  clear he
  go_enter Tryd.func33, Tryd.ntmps33
  go_wp2_with fail
  refine (now_ask HX.out HL.out.ne).mono ?_
  rintro e wA ⟨rfl, hb⟩
  have HXA := Aside0.mk (HX.out.below hb)
  have HBA := Aside0.mk hb
  unfold tokC
  clear hb x1
  by_cases h4 : p.now.f0 = 4
  ·have h4b : (p.now.f0 == 4) = true := beq_iff_eq.2 h4
   have H4 := Aside0.mk h4
   clear h4
   go_wp2_with fail
   first | go_end0 | ((try simp only [Exit.inBlock, Exit.then]); refine bodyPost_ret (results_none rfl _ _ _) rfl ?_)
   exact ⟨rfl, ⟨A, c, by unfold PS.fin; rw [if_pos ⟨HE.out, H4.out⟩]; exact HXA.out⟩, Kept.of_below HBA.out _⟩
  ·have h4b : (p.now.f0 == 4) = false := beq_eq_false_iff_ne.2 h4
   go_wp2_with fail
   refine (HTT.out wA HXA.out).mono ?_
   rintro e wB ⟨rfl, hX, hk⟩
   have HXB := Aside0.mk hX
   have HKB := Aside0.mk (kept_trans (Kept.of_below HBA.out (fun k => k = g)) hk)
   have H4 := Aside0.mk h4
   clear hX hk
   go_wp2_with fail
   first | go_end0 | ((try simp only [Exit.inBlock, Exit.then]); refine bodyPost_ret (results_none rfl _ _ _) rfl ?_)
   refine ⟨rfl, ?_, HKB.out⟩
   unfold PS.fin; rw [if_neg (fun h => H4.out h.2)]; exact HXB.out
 ·have hne : (p.e == 0) = false := beq_eq_false_iff_ne.2 he
  go_enter Tryd.func33, Tryd.ntmps33
  go_wp2_with fail
  refine (HTT.out W HX.out).mono ?_
  rintro e wB ⟨rfl, hX, hk⟩
  have HXB := Aside0.mk hX
  have HKB := Aside0.mk hk
  have HE := Aside0.mk he
  clear hX hk
  go_wp2_with fail
  first | go_end0 | ((try simp only [Exit.inBlock, Exit.then]); refine bodyPost_ret (results_none rfl _ _ _) rfl ?_)
  refine ⟨rfl, ?_, HKB.out⟩
  unfold PS.fin; rw [if_neg (fun h => HE.out h.1)]; exact HXB.out
set_option maxHeartbeats 1000000 in
set_option maxRecDepth 100000 in
theorem blank_ask (h : PrsX w0 ok W g A c vts vhs p) (hl : Ends p.l) :
  Calls Tryd.prog 17 #[.pointer (some ⟨g, 0, none⟩)] W fun e W' => e = .returned (.tuple #[]) ∧ (∃ A' c', PrsX w0 ok W' g A' c' vts vhs p.blank) ∧ Ends p.blank.l ∧ Kept W W' (fun k => k = g) := by
 have HX := Aside0.mk h
 have HL := Aside0.mk hl
 clear h hl
 go_enter Tryd.func17, Tryd.ntmps17
 go_wp2
 go_loopg [] p.l.length (fun kq wr => ∃ (A1 : Option Addr) (c1 : Nat) (l1 : List TOK), Aside0 (kq = l1.length) ∧ Aside0 (PrsX w0 ok wr g A1 c1 vts vhs { p with l := l1 }) ∧ Aside0 (Ends l1) ∧ Aside0 (l1.dropWhile (fun t => t.f0 == 3) = p.l.dropWhile (fun t => t.f0 == 3)) ∧ Aside0 (Kept W wr (fun k => k = g)))
 case atStart => exact ⟨A, c, p.l, ⟨rfl⟩, HX, HL, ⟨rfl⟩, ⟨Kept.refl _ _⟩⟩
 case round =>
  clear HX HL
  obtain ⟨A1, c1, l1, HN, HX, HL, HD, HK⟩ := hrel
  obtain ⟨t, r, hlr⟩ : ∃ t r, l1 = t :: r := by
   cases hl1 : l1 with
   | nil => exact absurd hl1 HL.out.ne
   | cons t r => exact ⟨t, r, rfl⟩
  subst hlr
  go_wp2_with fail
  refine (now_ask HX.out HL.out.ne).mono ?_
  rintro e wA ⟨rfl, hb⟩
  have HXA := Aside0.mk (HX.out.below hb)
  have HKA := Aside0.mk (kept_trans HK.out (Kept.of_below hb (fun k => k = g)))
  rw [show ({ p with l := t :: r } : PS).now = t from rfl]
  unfold tokC
  clear hb HX HK
  by_cases h3 : t.f0 = 3
  ·have h3b : (t.f0 == 3) = true := beq_iff_eq.2 h3
   have H3 := Aside0.mk h3
   have x0 : wA.cell? ⟨g, 0, none⟩ = some (.slice A1 (r.length + 1) c1) := blk_cell HXA.out.1 0
   have g0 := blk_frozen HXA.out.1 0
   obtain ⟨iT, hiT, hsT⟩ := infoTok
   have hcut := cut_from (P := Tryd.prog) 41 46 .i64 Tryd.underlying41 hiT 5 hsT A1 (r.length + 1) c1 (1 : Int) (by omega) (by omega)
   simp only [show (1 : Int).toNat = 1 from rfl, Nat.one_mul, Nat.add_sub_cancel] at hcut
   obtain ⟨A4, hA4⟩ : ∃ A4, (if c1 = 1 then A1 else A1.map (·.add 5)) = A4 := ⟨_, rfl⟩
   rw [hA4] at hcut
   have HCT : Aside0 (Kd.C k46 w0 A4 r.length r) := ⟨by
    have h := Kd.C_drop (c := c1) (m := 1) HXA.out.2.2.2.1 (by simp) HXA.out.2.2.1
    have e1 : (if c1 = 1 then A1 else A1.map (·.add (1 * (k46).sz))) = A4 := hA4
    rw [e1] at h
    exact h⟩
   clear hA4 h3
   go_wp2_with fail
   go_roundg r.length
   case measure => have := HN.out; simp at this; omega
   case rel =>
    refine ⟨A4, c1 - 1, r, ⟨rfl⟩, ⟨HXA.out.put 0 (.slice A4 r.length (c1 - 1)) (A' := A4) (c' := c1 - 1) (p' := { p with l := r }) rfl (by have := HXA.out.2.2.1; simp at this; show r.length ≤ c1 - 1; omega) HCT.out rfl rfl⟩, ⟨HL.out.tail (by rw [show (t :: r).headD z46 = t from rfl, H3.out]; omega)⟩, ⟨by rw [← HD.out, List.dropWhile_cons, if_pos (by rw [H3.out]; rfl)]⟩, ⟨HKA.out.setCell (p := ⟨g, 0, none⟩) (.inl rfl) _⟩⟩
  ·have h3b : (t.f0 == 3) = false := beq_eq_false_iff_ne.2 h3
   have HB : Aside0 (p.blank = { p with l := t :: r }) := ⟨by unfold PS.blank; rw [← HD.out, List.dropWhile_cons, if_neg (by rw [h3b]; decide)]⟩
   go_wp2_with fail
   first | go_end0 | ((try simp only [Exit.inBlock, Exit.then]); refine bodyPost_ret (results_none rfl _ _ _) rfl ?_)
   rw [HB.out]
   exact ⟨rfl, ⟨A1, c1, HXA.out⟩, HL.out, HKA.out⟩
theorem idx_modes (s : ByteArray) : idxGo [⟨#[]⟩, wRetry, wBlock, wBackup] s 0 = if s = ⟨#[]⟩ then 0 else if modeOf s = 0 then -1 else modeOf s := by
 have he : ∀ y : ByteArray, (s.toList = y.toList) ↔ s = y := fun y => by
  constructor
  ·intro h
   rw [Lib.toList_data, Lib.toList_data] at h
   cases s with | mk x => cases y with | mk z =>
   simp only at h
   rw [Array.toList_inj.1 h]
  ·rintro rfl; rfl
 simp only [idxGo, he]
 unfold modeOf
 by_cases h0 : s = ⟨#[]⟩
 ·rw [if_pos h0, if_pos h0]
 ·rw [if_neg h0, if_neg h0]
  by_cases h1 : s = wRetry
  ·simp [h1]
  ·by_cases h2 : s = wBlock
   ·have e1 : ¬ wBlock = wRetry := fun e => h1 (h2.trans e)
    simp [h2, e1]
   ·by_cases h3 : s = wBackup
    ·have e1 : ¬ wBackup = wRetry := fun e => h1 (h3.trans e)
     have e2 : ¬ wBackup = wBlock := fun e => h2 (h3.trans e)
     simp [h3, e1, e2]
    ·simp [h1, h2, h3]
theorem modes_C (W : World) : Kd.C Kd.string (W.alloc (.cells #[.string ⟨#[]⟩, .string wRetry, .string wBlock, .string wBackup] 9 (0, 0))) (some ⟨W.heap.size, 0, none⟩) 4 [⟨#[]⟩, wRetry, wBlock, wBackup] := by
 refine ⟨rfl, by omega, fun _ => ⟨_, rfl, fun j q hj => ⟨[.string q], rfl, rfl, fun i u hu => ?_⟩⟩⟩
 obtain ⟨rfl, rfl⟩ : i = 0 ∧ u = .string q := by
  cases i with
  | zero => exact ⟨rfl, by simpa using hu.symm⟩
  | succ i => simp at hu
 have hb := blk_cell (blk_new W (.cells #[.string ⟨#[]⟩, .string wRetry, .string wBlock, .string wBackup] 9 (0, 0))) j
 have e : (⟨W.heap.size, 0, none⟩ : Addr).add (j * Kd.string.sz + 0) = ⟨W.heap.size, j, none⟩ := by
  rw [show j * Kd.string.sz + 0 = j by simp [Kd.string, Kd.scalar], add_at, Nat.zero_add]
 rw [e, hb]
 match j, hj with
 | 0, hj => simpa using hj
 | 1, hj => simpa using hj
 | 2, hj => simpa using hj
 | 3, hj => simpa using hj
set_option maxRecDepth 100000 in
theorem modes_ask (W : World) : Calls Tryd.prog 28 #[] W fun e W' => e = .returned (.slice (some ⟨W.heap.size, 0, none⟩) 4 4) ∧ W' = W.alloc (.cells #[.string ⟨#[]⟩, .string wRetry, .string wBlock, .string wBackup] 9 (0, 0)) := by
 go_enter Tryd.func28, Tryd.ntmps28
 go_wp2
 go_ret
 exact ⟨rfl, rfl⟩
theorem modeOf_range (s : ByteArray) : 0 ≤ modeOf s ∧ modeOf s ≤ 3 := by
 unfold modeOf
 split
 ·omega
 ·split
  ·omega
  ·split <;> omega
set_option maxHeartbeats 1000000 in
set_option maxRecDepth 100000 in
theorem mode_ask (s : ByteArray) (W : World) :
  Calls Tryd.prog 14 #[.string s] W fun e W' => e = .returned (.int .i64 (modeOf s)) ∧ Below W.heap.size W W' := by
 have HC := Aside0.mk (modes_C W)
 have hb1 : Below W.heap.size W (W.alloc (.cells #[.string ⟨#[]⟩, .string wRetry, .string wBlock, .string wBackup] 9 (0, 0))) := below_alloc (Below.refl _ _) _
 have HB := Aside0.mk hb1
 clear hb1
 obtain ⟨r, hr⟩ : ∃ r, idxGo [⟨#[]⟩, wRetry, wBlock, wBackup] s 0 = r := ⟨_, rfl⟩
 have HR := Aside0.mk hr
 have hr2 := idx_modes s
 rw [hr] at hr2
 obtain ⟨m0, m3⟩ := modeOf_range s
 clear hr
 obtain ⟨bs, hbs⟩ : ∃ bs, s.toList.isEmpty = bs := ⟨_, rfl⟩
 have hse : bs = true ↔ s = ⟨#[]⟩ := by
  rw [← hbs, Lib.toList_data]
  constructor
  ·intro h
   cases s with | mk x =>
   simp at h
   rw [h]
  ·rintro rfl; rfl
 have HRES : Aside0 ((bs = true ∧ modeOf s = 0) ∨ (bs = false ∧ r < 0 ∧ modeOf s = 0) ∨ (bs = false ∧ 0 ≤ r ∧ modeOf s = r)) := ⟨by
  by_cases h0 : s = ⟨#[]⟩
  ·exact .inl ⟨hse.2 h0, by rw [h0]; kernel_rfl⟩
  ·have hb : bs = false := by cases bs with | true => exact absurd (hse.1 rfl) h0 | false => rfl
   rw [if_neg h0] at hr2
   by_cases hm : modeOf s = 0
   ·rw [if_pos hm] at hr2; exact .inr (.inl ⟨hb, by omega, hm⟩)
   ·rw [if_neg hm] at hr2; exact .inr (.inr ⟨hb, by omega, hr2.symm⟩)⟩
 clear hr2 hse m0 m3
 go_enter Tryd.func14, Tryd.ntmps14
 go_wp2_with fail
 refine (modes_ask W).mono ?_
 rintro e wA ⟨rfl, rfl⟩
 go_wp2_with fail
 refine (slices_Index_string_string.calls 5 _ 4 [⟨#[]⟩, wRetry, wBlock, wBackup] s r _ HC.out (by decide) (by have := idx_eq [⟨#[]⟩, wRetry, wBlock, wBackup] s (by decide); rw [HR.out] at this; exact this)).mono ?_
 rintro e wB ⟨rfl, hd⟩
 have HB2 := Aside0.mk (below_step HB.out hd.below)
 clear hd HB HC
 rcases HRES.out with ⟨h1, h2⟩ | ⟨h1, h2, h3⟩ | ⟨h1, h2, h3⟩
 ·subst h1
  have H2 := Aside0.mk h2
  clear h2
  go_wp2_with fail
  go_ret
  exact ⟨by rw [H2.out]; rfl, HB2.out⟩
 ·subst h1
  have hlt : decide (r < 0) = true := decide_eq_true h2
  have H2 := Aside0.mk h3
  clear h3
  go_wp2_with fail
  go_ret
  exact ⟨by rw [H2.out]; rfl, HB2.out⟩
 ·subst h1
  have hlt : decide (r < 0) = false := decide_eq_false (by omega)
  have H2 := Aside0.mk h3
  clear h3
  go_wp2_with fail
  go_ret
  exact ⟨by rw [H2.out]; rfl, HB2.out⟩
end
end Go.Proofs.YtddbkcfdfgehkaaDoor.Q

-- The parser's numbers: walked by hand.
namespace Go.Proofs.YtddbkcfdfgehkaaDoor.Q
open Go.RowKit Go.Proofs.YtddbkcfdfgehkaaDoorW.PrintWords Go.Proofs.YtddbkcfdfgehkaaDoorW.PrintLast Go.Proofs.YtddbkcfdfgehkaaDoorW.PrintMore
attribute [local go_sem] max2_int min2_int max_two min_two max_three min_three max_four min_four   -- for this text's walks alone
set_option linter.unusedVariables false
set_option linter.unusedSimpArgs false

attribute [local go_sem] tok_f0 tok_f1 tok_f2 tok_f3 tok_f4
section
variable {w0 W W' : World} {ok : Nat → Prop} {g : Nat} {A : Option Addr} {c : Nat} {vts vhs : Value} {p : PS}
def putNs (cs : Array Value) (os : List Nat) (vs : List Int) : Array Value := (os.zip vs).foldl (fun a x => a.setIfInBounds x.1 (.int .i64 x.2)) cs
theorem zip_snoc {α β : Type} : ∀ (os : List α) (vs : List β) (v : β) (h : vs.length < os.length), os.zip (vs ++ [v]) = os.zip vs ++ [(os[vs.length], v)]
 | [], vs, v, h => by simp at h
 | o :: os, [], v, h => by simp
 | o :: os, w :: vs, v, h => by simp [zip_snoc os vs v (by simpa using h)]
theorem putNs_snoc (cs : Array Value) (os : List Nat) (vs : List Int) (v : Int) (h : vs.length < os.length) : putNs cs os (vs ++ [v]) = (putNs cs os vs).setIfInBounds os[vs.length] (.int .i64 v) := by
 unfold putNs
 rw [zip_snoc os vs v h, List.foldl_append]
 rfl
theorem putNs_size (cs : Array Value) (os : List Nat) (vs : List Int) : (putNs cs os vs).size = cs.size := by
 unfold putNs
 have : ∀ (l : List (Nat × Int)) (a : Array Value), (l.foldl (fun a x => a.setIfInBounds x.1 (.int .i64 x.2)) a).size = a.size := by
  intro l
  induction l with
  | nil => intro a; rfl
  | cons x r ih => intro a; rw [List.foldl_cons, ih]; simp
 exact this _ _
theorem nums_len : ∀ (n : Nat) (p : PS), (PS.nums n p).2.length = n
 | 0, _ => rfl
 | n + 1, p => by simp [PS.nums, nums_len n p]
theorem nums_ends : ∀ (n : Nat) (p : PS), Ends p.l → Ends (PS.nums n p).1.l
 | 0, _, h => h
 | n + 1, p, h => take_ends (nums_ends n p h) 2 (by omega) []
set_option maxHeartbeats 2000000 in
set_option maxRecDepth 100000 in
theorem numbers_ask (h : PrsX w0 ok W g A c vts vhs p) (hl : Ends p.l) (q : Nat) (tq : TypeId) (cs : Array Value) (hq : W.heap[q]? = some (.cells cs tq (0, 0))) (hqg : q ≠ g) (hwq : w0.heap.size ≤ q) (hok : ∀ k, ok k → k ≠ q)
  (os : List Nat) (ho : ∀ i (h : i < os.length), os[i] < cs.size) (tb : Nat) (tcs : Array Value) (tt : TypeId) (htb : W.heap[tb]? = some (.cells tcs tt (0, 0))) (hto : ∀ i (h : i < os.length), tcs[i]? = some (.pointer (some ⟨q, os[i], none⟩))) (htg : tb ≠ g) (htq : tb ≠ q) (hol : os.length ≤ 1000000) (ct : Nat) (hct : os.length ≤ ct) :
  Calls Tryd.prog 32 #[.pointer (some ⟨g, 0, none⟩), .slice (some ⟨tb, 0, none⟩) os.length ct] W fun e W' => e = .returned (.tuple #[]) ∧ (∃ A' c', PrsX w0 ok W' g A' c' vts vhs (PS.nums os.length p).1) ∧ W'.heap[q]? = some (.cells (putNs cs os (PS.nums os.length p).2) tq (0, 0)) ∧ Kept W W' (fun k => k = g ∨ k = q) := by
 have HX := Aside0.mk h
 have HL := Aside0.mk hl
 have HQ := Aside0.mk hq
 have HTB := Aside0.mk htb
 have HTO := Aside0.mk hto
 have HO := Aside0.mk ho
 have HOK := Aside0.mk hok
 clear h hl hq htb hto ho hok
 go_enter Tryd.func32, Tryd.ntmps32
 go_wp2_with fail
 go_loopg [8] os.length (fun kk v8 wr => ∃ i : Nat, v8 = .int .i64 i ∧ i + kk = os.length ∧ Aside0 (∃ A' c', PrsX w0 ok wr g A' c' vts vhs (PS.nums i p).1) ∧ Aside0 (wr.heap[q]? = some (.cells (putNs cs os (PS.nums i p).2) tq (0, 0))) ∧ Aside0 (Kept W wr (fun k => k = g ∨ k = q)))
 case atStart => exact ⟨0, rfl, by omega, ⟨⟨A, c, HX.out⟩⟩, ⟨by unfold putNs; simpa [PS.nums] using HQ.out⟩, ⟨Kept.refl _ _⟩⟩
 case round =>
  clear HX HQ
  obtain ⟨i, rfl, hik, HX, HQ, HK⟩ := hrel
  by_cases hlt : i < os.length
  ·have hd : decide ((i : Int) < (os.length : Int)) = true := by simp; omega
   obtain ⟨A', c', hX⟩ := HX.out
   have HX2 := Aside0.mk hX
   have htb2 := blk_kept HTB.out HK.out (fun h => by rcases h with h | h <;> omega)
   have hy : wr.cell? ⟨tb, i, none⟩ = some (.pointer (some ⟨q, os[i], none⟩)) := (blk_cell htb2 i).trans (HTO.out i hlt)
   have p0 : (0 : Int) ≤ i := by omega
   have p1 : (i : Int) < (os.length : Int) := by omega
   obtain ⟨o, hoi⟩ : ∃ o, os[i] = o := ⟨_, rfl⟩
   have HOI := Aside0.mk hoi
   have HOS : Aside0 (o < cs.size) := ⟨by rw [← hoi]; exact HO.out i hlt⟩
   rw [hoi] at hy
   have HTK := Aside0.mk (take_ask HX2.out (nums_ends i p HL.out).ne 2 none 0 [] (Kd.C_nil _ _) (Nat.le_refl _) (Nat.zero_le _))
   obtain ⟨pi, hpi⟩ : ∃ pi, (PS.nums i p) = pi := ⟨_, rfl⟩
   have HPI := Aside0.mk hpi
   rw [hpi] at HTK HX2 HQ
   clear hX htb2 hoi hpi HX
   go_wp2_with fail
   refine HTK.out.mono ?_
   rintro e wA ⟨rfl, hX, hk⟩
   obtain ⟨A2, c2, hX⟩ := hX
   have HXA := Aside0.mk hX
   have hqa := blk_kept HQ.out hk hqg
   have HQA := Aside0.mk hqa
   have HKA := Aside0.mk (kept_trans HK.out (kept_mono hk (fun k h => .inl h)))
   have hos2 : o < (putNs cs os pi.2).size := by rw [putNs_size]; exact HOS.out
   have z0 : wA.cell? ⟨q, o, none⟩ = some ((putNs cs os pi.2)[o]) := (blk_cell hqa o).trans (Array.getElem?_eq_getElem hos2)
   have z1 := blk_frozen hqa o
   obtain ⟨zv, hzv⟩ : ∃ zv, (putNs cs os pi.2)[o] = zv := ⟨_, rfl⟩
   rw [hzv] at z0
   unfold tokC
   clear hX hk hqa hos2 hzv HX2 HQ HK HTK hy
   go_wp2_with fail
   go_roundg (os.length - (i + 1))
   case measure => omega
   case rel =>
    have hlen : pi.2.length = i := by rw [← HPI.out]; exact nums_len i p
    have hn1 : PS.nums (i + 1) p = ((pi.1.take 2 []).1, pi.2 ++ [(pi.1.take 2 []).2.f2]) := by rw [PS.nums, HPI.out]; rfl
    refine ⟨i + 1, by first | rfl | simp, by omega, ⟨⟨A2, c2, ?_⟩⟩, ⟨?_⟩, ⟨HKA.out.setCell (p := ⟨q, o, none⟩) (.inl (.inr rfl)) _⟩⟩
    ·rw [hn1]; exact HXA.out.far hqg HOK.out hwq o _
    ·rw [hn1]
     rw [putNs_snoc cs os pi.2 _ (by omega)]
     have e1 : os[pi.2.length]'(by omega) = o := by rw [← HOI.out]; congr 1
     rw [e1]
     exact blk_put HQA.out o _ rfl
  ·have hd : decide ((i : Int) < (os.length : Int)) = false := by simp; omega
   obtain rfl : i = os.length := by omega
   go_wp2_with fail
   first | go_end0 | ((try simp only [Exit.inBlock, Exit.then]); refine bodyPost_ret (results_none rfl _ _ _) rfl ?_)
   exact ⟨rfl, HX.out, HQ.out, HK.out⟩
set_option maxHeartbeats 2000000 in
set_option maxRecDepth 100000 in
theorem burst_ask (h : PrsX w0 ok W g A c vts vhs p) (hl : Ends p.l) (tb : Nat) (tt : TypeId) (htb : W.heap[tb]? = some (.cells #[.pointer (some ⟨g, 4, none⟩)] tt (0, 0))) (htg : tb ≠ g) :
  Calls Tryd.prog 32 #[.pointer (some ⟨g, 0, none⟩), .slice (some ⟨tb, 0, none⟩) 1 1] W fun e W' => e = .returned (.tuple #[]) ∧ (∃ A' c', PrsX w0 ok W' g A' c' vts vhs { p.num.1 with b := p.num.2 }) ∧ Kept W W' (fun k => k = g) := by
 have HX := Aside0.mk h
 have HL := Aside0.mk hl
 have HTB := Aside0.mk htb
 clear h hl htb
 go_enter Tryd.func32, Tryd.ntmps32
 go_wp2_with fail
 go_loopg [8] 1 (fun kk v8 wr => ∃ i : Nat, v8 = .int .i64 i ∧ i + kk = 1 ∧ Aside0 (i = 0 → PrsX w0 ok wr g A c vts vhs p) ∧ Aside0 (i = 1 → ∃ A' c', PrsX w0 ok wr g A' c' vts vhs { p.num.1 with b := p.num.2 }) ∧ Aside0 (Kept W wr (fun k => k = g)))
 case atStart => exact ⟨0, rfl, by omega, ⟨fun _ => HX.out⟩, ⟨fun h => absurd h (by omega)⟩, ⟨Kept.refl _ _⟩⟩
 case round =>
  clear HX
  obtain ⟨i, rfl, hik, HX, HY, HK⟩ := hrel
  by_cases hlt : i < 1
  ·obtain rfl : i = 0 := by omega
   have HX2 := Aside0.mk (HX.out rfl)
   have htb2 := blk_kept HTB.out HK.out htg
   have hy : wr.cell? ⟨tb, 0, none⟩ = some (.pointer (some ⟨g, 4, none⟩)) := blk_cell htb2 0
   have HTK := Aside0.mk (take_ask HX2.out HL.out.ne 2 none 0 [] (Kd.C_nil _ _) (Nat.le_refl _) (Nat.zero_le _))
   clear htb2 HX HY
   go_wp2_with fail
   refine HTK.out.mono ?_
   rintro e wA ⟨rfl, hX, hk⟩
   obtain ⟨A2, c2, hX⟩ := hX
   have HXA := Aside0.mk hX
   have HKA := Aside0.mk (kept_trans HK.out hk)
   have z0 : wA.cell? ⟨g, 4, none⟩ = some (.int .i64 (p.take 2 []).1.b) := blk_cell hX.1 4
   have z1 := blk_frozen hX.1 4
   unfold tokC
   clear hX hk HX2 HK HTK hy
   go_wp2_with fail
   go_roundg 0
   case measure => omega
   case rel => exact ⟨1, by first | rfl | simp, by omega, ⟨fun h => absurd h (by omega)⟩, ⟨fun _ => ⟨A2, c2, HXA.out.put 4 _ (A' := A2) (c' := c2) (p' := { (p.take 2 []).1 with b := (p.take 2 []).2.f2 }) rfl HXA.out.2.2.1 HXA.out.2.2.2.1 rfl rfl⟩⟩, ⟨HKA.out.setCell (p := ⟨g, 4, none⟩) (.inl rfl) _⟩⟩
  ·obtain rfl : i = 1 := by omega
   go_wp2_with fail
   first | go_end0 | ((try simp only [Exit.inBlock, Exit.then]); refine bodyPost_ret (results_none rfl _ _ _) rfl ?_)
   exact ⟨rfl, HY.out (by first | rfl | trivial), HK.out⟩
/-- A row of texts that a call lays. -/
theorem texts_C (W : World) (ss : List ByteArray) (hl : ss.length ≤ 1000) : Kd.C Kd.string (W.alloc (.cells (ss.map Value.string).toArray 9 (0, 0))) (some ⟨W.heap.size, 0, none⟩) ss.length ss := by
 refine ⟨rfl, by omega, fun _ => ⟨_, rfl, fun j q hj => ⟨[.string q], rfl, rfl, fun i u hu => ?_⟩⟩⟩
 obtain ⟨rfl, rfl⟩ : i = 0 ∧ u = .string q := by
  cases i with
  | zero => exact ⟨rfl, by simpa using hu.symm⟩
  | succ i => simp at hu
 have hb := blk_cell (blk_new W (.cells (ss.map Value.string).toArray 9 (0, 0))) j
 have e : (⟨W.heap.size, 0, none⟩ : Addr).add (j * Kd.string.sz + 0) = ⟨W.heap.size, j, none⟩ := by
  rw [show j * Kd.string.sz + 0 = j by simp [Kd.string, Kd.scalar], add_at, Nat.zero_add]
 rw [e, hb]
 simp [hj]
set_option maxHeartbeats 2000000 in
set_option maxRecDepth 100000 in
theorem first_ask (h : PrsX w0 ok W g A c vts vhs p) (hl : Ends p.l) :
  Calls Tryd.prog 18 #[.pointer (some ⟨g, 0, none⟩)] W fun e W' => e = .returned (.tuple #[]) ∧ (∃ A' c', PrsX w0 ok W' g A' c' vts vhs p.first) ∧ Ends p.first.l ∧ Kept W W' (fun k => k = g) := by
 have HX := Aside0.mk h
 have HL := Aside0.mk hl
 have HGL : Aside0 (g < W.heap.size) := ⟨blk_lt h.1⟩
 clear h hl
 go_enter Tryd.func18, Tryd.ntmps18
 go_wp2_with fail
 have hb1 : Below W.heap.size W (W.alloc (.cells #[.string wBurst] 9 (0, 0))) := below_alloc (Below.refl _ _) _
 refine (take_ask (HX.out.below hb1) HL.out.ne 1 _ 1 [wBurst] (texts_C W [wBurst] (by decide)) (Nat.le_refl _) (by decide)).mono ?_
 rintro e wA ⟨rfl, hX, hk⟩
 obtain ⟨A2, c2, hX⟩ := hX
 have HKA := Aside0.mk (kept_trans (Kept.of_below hb1 (fun k => k = g)) hk)
 have HXA := Aside0.mk hX
 have HLA := Aside0.mk (take_ends HL.out 1 (by omega) [wBurst])
 obtain ⟨p1, hp1⟩ : ∃ p1, (p.take 1 [wBurst]).1 = p1 := ⟨_, rfl⟩
 have HP1 := Aside0.mk hp1
 rw [hp1] at HXA HLA
 clear hX hk hb1 hp1 HX
 go_wp2_with fail
 refine (now_ask HXA.out HLA.out.ne).mono ?_
 rintro e wB ⟨rfl, hb⟩
 have HXB := Aside0.mk (HXA.out.below hb)
 have HKB := Aside0.mk (kept_trans HKA.out (Kept.of_below hb (fun k => k = g)))
 have z6 : wB.cell? ⟨g, 6, none⟩ = some (.int .i64 p1.bt.f0) := blk_cell HXB.out.1 6
 have z7 : wB.cell? ⟨g, 7, none⟩ = some (.string p1.bt.f1) := blk_cell HXB.out.1 7
 have z8 : wB.cell? ⟨g, 8, none⟩ = some (.int .i64 p1.bt.f2) := blk_cell HXB.out.1 8
 have z9 : wB.cell? ⟨g, 9, none⟩ = some (.int .i64 p1.bt.f3) := blk_cell HXB.out.1 9
 have z10 : wB.cell? ⟨g, 10, none⟩ = some (.int .i64 p1.bt.f4) := blk_cell HXB.out.1 10
 have y6 := blk_frozen HXB.out.1 6
 have y7 := blk_frozen HXB.out.1 7
 have y8 := blk_frozen HXB.out.1 8
 have y9 := blk_frozen HXB.out.1 9
 have y10 := blk_frozen HXB.out.1 10
 unfold tokC
 clear hb HXA HKA
 go_wp2_with fail
 obtain ⟨wC, hwC⟩ : ∃ wC, wC = ((((wB.setCell ⟨g, 6, none⟩ (.int .i64 p1.now.f0)).setCell ⟨g, 7, none⟩ (.string p1.now.f1)).setCell ⟨g, 8, none⟩ (.int .i64 p1.now.f2)).setCell ⟨g, 9, none⟩ (.int .i64 p1.now.f3)).setCell ⟨g, 10, none⟩ (.int .i64 p1.now.f4) := ⟨_, rfl⟩
 have hx1 := HXB.out.put 6 (.int .i64 p1.now.f0) (A' := A2) (c' := c2) (p' := { p1 with bt := { p1.bt with f0 := p1.now.f0 } }) rfl HXB.out.2.2.1 HXB.out.2.2.2.1 rfl rfl
 have hx2 := hx1.put 7 (.string p1.now.f1) (A' := A2) (c' := c2) (p' := { p1 with bt := { p1.bt with f0 := p1.now.f0, f1 := p1.now.f1 } }) rfl HXB.out.2.2.1 HXB.out.2.2.2.1 rfl rfl
 have hx3 := hx2.put 8 (.int .i64 p1.now.f2) (A' := A2) (c' := c2) (p' := { p1 with bt := { p1.bt with f0 := p1.now.f0, f1 := p1.now.f1, f2 := p1.now.f2 } }) rfl HXB.out.2.2.1 HXB.out.2.2.2.1 rfl rfl
 have hx4 := hx3.put 9 (.int .i64 p1.now.f3) (A' := A2) (c' := c2) (p' := { p1 with bt := { p1.bt with f0 := p1.now.f0, f1 := p1.now.f1, f2 := p1.now.f2, f3 := p1.now.f3 } }) rfl HXB.out.2.2.1 HXB.out.2.2.2.1 rfl rfl
 have hx5 : PrsX w0 ok wC g A2 c2 vts vhs { p1 with bt := p1.now } := by rw [hwC]; exact hx4.put 10 (.int .i64 p1.now.f4) (A' := A2) (c' := c2) (p' := { p1 with bt := p1.now }) rfl HXB.out.2.2.1 HXB.out.2.2.2.1 rfl rfl
 have hsz : wC.heap.size = wB.heap.size := by rw [hwC]; simp
 have hkc : Kept W wC (fun k => k = g) := by rw [hwC]; exact ((((HKB.out.setCell (p := ⟨g, 6, none⟩) (.inl rfl) _).setCell (p := ⟨g, 7, none⟩) (.inl rfl) _).setCell (p := ⟨g, 8, none⟩) (.inl rfl) _).setCell (p := ⟨g, 9, none⟩) (.inl rfl) _).setCell (p := ⟨g, 10, none⟩) (.inl rfl) _
 have hgw : g < wB.heap.size := blk_lt HXB.out.1
 rw [← hwC, ← hsz]
 have HXC := Aside0.mk hx5
 have HKC := Aside0.mk hkc
 have HSZ := Aside0.mk hsz
 clear hx1 hx2 hx3 hx4 hx5 hkc hwC HXB HKB z6 z7 z8 z9 z10 y6 y7 y8 y9 y10 hsz
 have hb2 : Below wC.heap.size wC (wC.alloc (.cells #[.pointer (some ⟨g, 4, none⟩)] 67 (0, 0))) := below_alloc (Below.refl _ _) _
 refine (burst_ask (HXC.out.below hb2) HLA.out wC.heap.size _ (blk_new wC _) (by have := HSZ.out; omega)).mono ?_
 rintro e wD ⟨rfl, hX, hk⟩
 obtain ⟨A3, c3, hX⟩ := hX
 have HKD := Aside0.mk (kept_trans (kept_trans HKC.out (Kept.of_below hb2 (fun k => k = g))) hk)
 have HXD := Aside0.mk hX
 have HLD : Aside0 (Ends ({ ({ p1 with bt := p1.now } : PS).num.1 with b := ({ p1 with bt := p1.now } : PS).num.2 } : PS).l) := ⟨take_ends (p := { p1 with bt := p1.now }) HLA.out 2 (by omega) []⟩
 have HFI : Aside0 (p.first = ({ ({ p1 with bt := p1.now } : PS).num.1 with b := ({ p1 with bt := p1.now } : PS).num.2 } : PS).fin) := ⟨by unfold PS.first; rw [HP1.out]⟩
 obtain ⟨p2, hp2⟩ : ∃ p2, ({ ({ p1 with bt := p1.now } : PS).num.1 with b := ({ p1 with bt := p1.now } : PS).num.2 } : PS) = p2 := ⟨_, rfl⟩
 rw [hp2] at HXD HLD HFI
 clear hX hk hb2 HXC HKC hp2
 go_wp2_with fail
 refine (fin_ask HXD.out HLD.out).mono ?_
 rintro e wE ⟨rfl, hX, hk⟩
 have HKE := Aside0.mk (kept_trans HKD.out hk)
 have HXE := Aside0.mk hX
 clear hX hk
 go_wp2_with fail
 first | go_end0 | ((try simp only [Exit.inBlock, Exit.then]); refine bodyPost_ret (results_none rfl _ _ _) rfl ?_)
 rw [HFI.out]
 exact ⟨rfl, HXE.out, fin_ends HLD.out, HKE.out⟩
end
end Go.Proofs.YtddbkcfdfgehkaaDoor.Q

-- A text that is read, behind itself: the parser fails at the second one's first word (no program in sight).
namespace Go.Proofs.YtddbkcfdfgehkaaDoor.Q
open Go.RowKit Go.Proofs.YtddbkcfdfgehkaaDoorW.PrintWords Go.Proofs.YtddbkcfdfgehkaaDoorW.PrintLast Go.Proofs.YtddbkcfdfgehkaaDoorW.PrintMore
attribute [local go_sem] max2_int min2_int max_two min_two max_three min_three max_four min_four   -- for this text's walks alone
set_option linter.unusedVariables false
set_option linter.unusedSimpArgs false

def Inner (r : List TOK) : Prop := ∀ x ∈ r, x.f0 ≠ 4
/-- The same states, but for the tokens that are left: 'q' has 'nl :: S' in the place of the end 't'. -/
def ExtR (t nl : TOK) (S : List TOK) (p q : PS) : Prop := q = { p with l := q.l } ∧ ∃ r, Inner r ∧ p.l = r ++ [t] ∧ q.l = r ++ nl :: S
section
variable {t nl : TOK} {S : List TOK} {p q : PS} (ht : t.f0 = 4) (hn : nl.f0 = 3)
include ht in
theorem ExtR.head (h : ExtR t nl S p q) (hk : p.now.f0 ≠ 4) : ∃ a r, Inner (a :: r) ∧ p.l = a :: (r ++ [t]) ∧ q.l = a :: (r ++ nl :: S) := by
 obtain ⟨h0, r, hi, h1, h2⟩ := h
 cases r with
 | nil => exact absurd (by unfold PS.now; rw [h1]; exact ht) hk
 | cons a r => exact ⟨a, r, hi, h1, h2⟩
theorem take_bad (p : PS) (k : Int) (tx : List ByteArray) (h : p.e ≠ 0) : (p.take k tx).1 = p := by
 unfold PS.take PS.fits PS.fail
 have : (p.e == 0) = false := beq_eq_false_iff_ne.2 h
 rw [this]
 simp [h]
theorem fin_bad (p : PS) (h : p.e ≠ 0) : p.fin = p := by
 unfold PS.fin
 rw [if_neg (fun hh => h hh.1)]
 exact take_bad p 3 [] h
theorem go_bad (n : Nat) (q : PS) (h : q.e ≠ 0) : PS.go n q = q := go_done n q (fun hh => h hh.1)
end
end Go.Proofs.YtddbkcfdfgehkaaDoor.Q
