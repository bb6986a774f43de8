-- Texts of this claim, put together: LfixJ, LfixM, LfixW, LfixY, LgapP.
import Derived.Test.YtefenbhcbpfihaaDoorM0
import Derived.Test.YtefenbhcbpfihaaDoorM5
import Derived.Test.YtefenbhcbpfihaaDoorQ18
import Derived.Test.YtefenbhcbpfihaaDoorQ19
import Derived.Test.YtefenbhcbpfihaaDoorHfixN
import Derived.Test.YtefenbhcbpfihaaDoorQ10
-- What fix.Response, verdict.Judge and verdict.Same answer (no program in sight).
namespace Go.Proofs.YtefenbhcbpfihaaDoor.Q
open Go.RowKit Go.Proofs.YtefenbhcbpfihaaDoorW.PrintWords Go.Proofs.YtefenbhcbpfihaaDoorW.PrintLast Go.Proofs.YtefenbhcbpfihaaDoorW.PrintMore
attribute [local go_sem] max2_int min2_int max_two min_two max_three min_three max_four min_four   -- for this text's walks alone
set_option linter.unusedVariables false
set_option linter.unusedSimpArgs false

theorem RightS.dem {b : Int} {ts : List TK} (h : RightS b ts) : ∀ t ∈ ts, Dem t := by
 intro t ht
 obtain ⟨j, hj, rfl⟩ := List.getElem_of_mem ht
 have := whyT_zero.1 (h.each j hj)
 exact dem_of this.2.1 this.2.2.1
def tkA (ts : List TK) (i : Nat) : TK := rd_T39 ts (i : Int)
theorem tkA_get (ts : List TK) (i : Nat) (h : i < ts.length) : tkA ts i = ts[i] := by
 unfold tkA
 simp [rd_T39, List.getD_eq_getElem?_getD, List.getElem?_eq_getElem h]
theorem tkA_mem (ts : List TK) (i : Nat) (h : i < ts.length) : tkA ts i ∈ ts := by rw [tkA_get ts i h]; exact List.getElem_mem h
theorem tkA_key (ts : List TK) (i : Nat) (h : i < ts.length) : keyA ts i = (tkA ts i).f10 := by
 rw [tkA_get ts i h]
 unfold keyA
 simp [List.getD_eq_getElem?_getD, List.getElem?_eq_getElem h]
def respI (b : Int) (ts : List TK) (g : Int) (i : Nat) : Option Int := respR (nextF b ts (tkA ts i) g) (tkA ts i).f2 ((tkA ts i).f2 + 2).toNat 0
def resO : Option Int → Int × Bool
 | some r => (r, true)
 | none => (0, false)
theorem RightS.mono {b : Int} {ts : List TK} {g : Int} (h : RightS b ts) (hg : 1 ≤ g) (t : TK) (a c : Int) (h0 : 0 ≤ a) (h1 : a ≤ c) : nextF b ts t g a ≤ nextF b ts t g c :=
 next_mono h.b0 hg h0 h1 (fun t ht => ⟨by have := (h.dem t ht).T1; omega, by have := (h.dem t ht).whole; omega⟩)
theorem next_eval {b : Int} {ts : List TK} {g : Int} (h : RightS b ts) (hg1 : 1 ≤ g) (hg2 : g ≤ 1049576) (i : Nat) (hi : i < ts.length) (w : Int) (hw : 0 ≤ w) (hw2 : w ≤ 1048576) : fix_Next.f b ts (i : Int) g w = some (nextF b ts (tkA ts i) g w, true) := by
 unfold fix_Next.f
 rw [if_pos ⟨h.dem, ⟨h.b0, h.b1⟩, ⟨by omega, by omega, h.n1⟩, ⟨hg1, hg2⟩, hw, hw2⟩]
 rfl
theorem resp_loop {b : Int} {ts : List TK} {g : Int} (h : RightS b ts) (hg1 : 1 ≤ g) (hg2 : g ≤ 1049576) (i : Nat) (hi : i < ts.length) : ∀ (n k : Nat) (w : Int), 0 ≤ w → w ≤ (tkA ts i).f2 → w ≤ nextF b ts (tkA ts i) g w → (tkA ts i).f2 - w + 1 < n → 2 * n < k →
  fix_Response.l0 k (i : Int) g w b ts = (respG (nextF b ts (tkA ts i) g) (tkA ts i).f2 n w).map resO
 | 0, k, w, h0, h1, h2, h3, hk => by omega
 | n + 1, k, w, h0, h1, h2, h3, hk => by
  obtain ⟨k, rfl⟩ : ∃ j, k = j + 2 := ⟨k - 2, by omega⟩
  have hd := h.dem _ (tkA_mem ts i hi)
  have hT := hd.T2
  have hD := hd.D2
  have e2 : (rd_T39 ts (i : Int)).f2 = (tkA ts i).f2 := rfl
  rw [fix_Response.l0, next_eval h hg1 hg2 i hi w h0 (by omega)]
  simp only [Option.bind_some, if_true]
  rw [if_pos (by omega), if_pos (by omega), e2, fix_Response.j1]
  by_cases hg : nextF b ts (tkA ts i) g w > (tkA ts i).f2
  ·rw [decide_eq_true hg, if_pos rfl, respG, if_pos hg]; rfl
  ·rw [decide_eq_false hg, if_neg (by decide), respG, if_neg hg]
   by_cases hf : nextF b ts (tkA ts i) g w = w
   ·rw [if_pos hf, if_pos hf]; rfl
   ·rw [if_neg hf, if_neg hf]
    exact resp_loop h hg1 hg2 i hi n k _ (by omega) (by omega) (h.mono hg1 _ _ _ h0 h2) (by omega) (by omega)
theorem next_zero {b : Int} {ts : List TK} {g : Int} (h : RightS b ts) (hg1 : 1 ≤ g) (i : Nat) (hi : i < ts.length) : 0 ≤ nextF b ts (tkA ts i) g 0 := by
 have := next_bound h.b0 h.b1 hg1 (Int.le_refl 0) (by omega) h.dem (h.dem _ (tkA_mem ts i hi)) h.n1
 omega
theorem resp_eval {b : Int} {ts : List TK} {g : Int} (h : RightS b ts) (hg1 : 1 ≤ g) (hg2 : g ≤ 1049576) (i : Nat) (hi : i < ts.length) (k : Nat) (hk : 2 * ((tkA ts i).f2 + 2).toNat < k) : fix_Response.f k b ts (i : Int) g = some (resO (respI b ts g i)) := by
 have hd := (h.dem _ (tkA_mem ts i hi)).D1
 unfold fix_Response.f
 rw [resp_loop h hg1 hg2 i hi ((tkA ts i).f2 + 2).toNat k 0 (by omega) (by omega) (next_zero h hg1 i hi) (by omega) hk,
  resp_eq _ _ (fun a c => h.mono hg1 _ a c) _ 0 (Int.le_refl 0) (by omega) (next_zero h hg1 i hi) (by omega)]
 rfl
def ordI (ts : List TK) : List Nat := (ordN ts).map (fun i => i.val)
theorem ordN_len (ts : List TK) : (ordN ts).length = ts.length := by unfold ordN; simp
theorem ordI_len (ts : List TK) : (ordI ts).length = ts.length := by unfold ordI; rw [List.length_map, ordN_len]
theorem ordI_lt (ts : List TK) : ∀ i ∈ ordI ts, i < ts.length := by
 intro i hi
 obtain ⟨x, _, rfl⟩ := List.mem_map.1 hi
 exact x.isLt
theorem rd_ordI (ts : List TK) (j : Nat) (h : j < (ordI ts).length) : rd (ordF ts) (j : Int) = ((ordI ts)[j] : Int) := by
 have h2 : j < (ordN ts).length := by rw [ordI_len] at h; rw [ordN_len]; exact h
 have e : (ordI ts)[j] = (ordN ts)[j].val := List.getElem_map _
 rw [e]
 unfold ordF rd
 simp [List.getD_eq_getElem?_getD, List.getElem?_eq_getElem h2]
/-- The verdict. -/
def jdg (b : Int) (ts : List TK) (g : Int) : Bool × Int × List Int := judgeL (respI b ts g) (ordI ts) (List.replicate ts.length 0)
theorem judge_loop {b : Int} {ts : List TK} {g : Int} (h : RightS b ts) (hg1 : 1 ≤ g) (hg2 : g ≤ 1049576) (B : Nat) (hB : ∀ t ∈ ts, 2 * (t.f2 + 2).toNat < B) : ∀ (n j k : Nat) (R : List Int), j + n = ts.length → R.length = ts.length → n + B < k →
  verdict_Judge.l0 k g (ordF ts) (ts.length : Int) (j : Int) b ts true (-1) R = some ((judgeL (respI b ts g) ((ordI ts).drop j) R).1, (judgeL (respI b ts g) ((ordI ts).drop j) R).2.1, (judgeL (respI b ts g) ((ordI ts).drop j) R).2.2, 0)
 | 0, j, k, R, hj, hR, hk => by
  obtain ⟨k, rfl⟩ : ∃ i, k = i + 1 := ⟨k - 1, by omega⟩
  rw [verdict_Judge.l0, if_neg (by omega), List.drop_of_length_le (by rw [ordI_len]; omega)]
  rfl
 | n + 1, j, k, R, hj, hR, hk => by
  obtain ⟨k, rfl⟩ : ∃ i, k = i + 1 := ⟨k - 1, by omega⟩
  have hl := h.n1
  have hjl : j < (ordI ts).length := by rw [ordI_len]; omega
  have hfl : (ordF ts).length = ts.length := by unfold ordF; rw [List.length_map, ordN_len]
  rw [verdict_Judge.l0, if_pos (by omega), if_pos (by omega), if_pos (by rw [hfl]; omega), rd_ordI ts j hjl, List.drop_eq_getElem_cons hjl]
  obtain ⟨i, hi⟩ : ∃ i, (ordI ts)[j] = i := ⟨_, rfl⟩
  have hil : i < ts.length := by rw [← hi]; exact ordI_lt ts _ (List.getElem_mem hjl)
  rw [hi, resp_eval h hg1 hg2 i hil k (by have := hB _ (tkA_mem ts i hil); omega), judgeL]
  cases hr : respI b ts g i with
  | none => simp [resO]
  | some r =>
   have ih := judge_loop h hg1 hg2 B hB n (j + 1) k (R.set i r) (by omega) (by simpa using hR) (by omega)
   simp only [resO, Option.bind_some, if_true]
   rw [if_pos (by omega), if_pos (by omega), show wrap64 ((j : Int) + 1) = ((j + 1 : Nat) : Int) by rw [w64_ok (by omega) (by omega)]; omega, show ((i : Int)).toNat = i by omega, ih]
theorem judge_right {b : Int} {ts : List TK} {g : Int} (h : RightS b ts) (hg1 : 1 ≤ g) (hg2 : g ≤ 1049576) (B : Nat) (hB : ∀ t ∈ ts, 2 * (t.f2 + 2).toNat < B) (k : Nat) (hk : B + 20 < k) :
  verdict_Judge.f k b ts g = some ((jdg b ts g).1, (jdg b ts g).2.1, (jdg b ts g).2.2, 0) := by
 obtain ⟨k, rfl⟩ : ∃ i, k = i + 1 := ⟨k - 1, by omega⟩
 have hl := h.n1
 have hw := (rightS_iff b ts).2 h
 have e1 : task_Right.f b ts = some true := by
  show some ((whyS b ts).1 == 0) = some true
  rw [hw]; rfl
 have hfl : (ordF ts).length = ts.length := by unfold ordF; rw [List.length_map, ordN_len]
 have e2 : task_Order.f b ts = some (ordF ts) := by unfold task_Order.f; rw [if_pos ⟨h.nodup, by omega⟩]
 unfold verdict_Judge.f
 rw [e1]
 simp only [Option.bind_some, if_true]
 rw [if_neg (by omega), decide_eq_false (by omega), verdict_Judge.j0, if_neg (by decide), if_pos (by omega), if_pos (by omega), e2]
 simp only [Option.bind_some]
 rw [hfl]
 have := judge_loop h hg1 hg2 B hB ts.length 0 k (List.replicate ts.length 0) (by omega) (by simp) (by omega)
 rw [List.drop_zero] at this
 exact this
theorem jdg_len (b : Int) (ts : List TK) (g : Int) : (jdg b ts g).2.2.length = ts.length := by unfold jdg; rw [judge_len]; simp
def vsame (a b : Bool × Int × List Int) : Bool := a.1 == b.1 && (a.2.1 == b.2.1 && a.2.2 == b.2.2)
theorem vsame_iff (a b : Bool × Int × List Int) : vsame a b = true ↔ a = b := by
 obtain ⟨a1, a2, a3⟩ := a
 obtain ⟨b1, b2, b3⟩ := b
 simp [vsame]
end Go.Proofs.YtefenbhcbpfihaaDoor.Q

-- The reference's Small (no program in sight).
namespace Go.Proofs.YtefenbhcbpfihaaDoor.Q
open Go.RowKit Go.Proofs.YtefenbhcbpfihaaDoorW.PrintWords Go.Proofs.YtefenbhcbpfihaaDoorW.PrintLast Go.Proofs.YtefenbhcbpfihaaDoorW.PrintMore
attribute [local go_sem] max2_int min2_int max_two min_two max_three min_three max_four min_four   -- for this text's walks alone
set_option linter.unusedVariables false
set_option linter.unusedSimpArgs false

def smallB (ts : List TK) : Bool := (ts.take 20).all (fun t => decide (t.f2 ≤ 3000) && decide (t.f0.size ≤ 60)) && decide (ts.length ≤ 16)
theorem small_loop (b : Int) (ts : List TK) : ∀ (n i k : Nat), i + n = 20 → 2 * n + 2 < k → pendulumref19_Small.l0 k (i : Int) b ts = some (((ts.take 20).drop i).all (fun t => decide (t.f2 ≤ 3000) && decide (t.f0.size ≤ 60)) && decide (ts.length ≤ 16))
 | n, i, k, h, hk => by
  obtain ⟨k, rfl⟩ : ∃ j, k = j + 2 := ⟨k - 2, by omega⟩
  have hd16 : decide ((ts.length : Int) ≤ 16) = decide (ts.length ≤ 16) := by rw [decide_eq_decide]; omega
  simp only [pendulumref19_Small.l0]
  by_cases hi : (i : Int) < (ts.length : Int)
  ·rw [if_pos hi]
   by_cases h20 : (i : Int) < 20
   ·rw [decide_eq_true h20]
    obtain ⟨n, rfl⟩ : ∃ m, n = m + 1 := ⟨n - 1, by omega⟩
    have hlt : i < ts.length := by omega
    have hg : rd_T39 ts (i : Int) = ts[i] := by simp [rd_T39, List.getD_eq_getElem?_getD, List.getElem?_eq_getElem hlt]
    have hlt2 : i < (ts.take 20).length := by rw [List.length_take]; omega
    have hg2 : (ts.take 20)[i] = ts[i] := List.getElem_take
    simp only [pendulumref19_Small.j1]
    rw [if_pos trivial, if_pos (by omega), if_pos hi, hg, List.drop_eq_getElem_cons hlt2, List.all_cons, hg2]
    by_cases hd : ts[i].f2 > 3000
    ·rw [if_pos hd, decide_eq_false (show ¬ ts[i].f2 ≤ 3000 by omega)]; rfl
    ·rw [if_neg hd, decide_eq_true (show ts[i].f2 ≤ 3000 by omega)]
     by_cases hs : ((ts[i].f0.size : Int)) > 60
     ·rw [if_pos hs, decide_eq_false (show ¬ ts[i].f0.size ≤ 60 by omega)]; rfl
     ·rw [if_neg hs, decide_eq_true (show ts[i].f0.size ≤ 60 by omega), w64_ok (by omega) (by omega), show ((i : Int) + 1) = ((i + 1 : Nat) : Int) by omega, small_loop b ts n (i + 1) k (by omega) (by omega), Bool.true_and, Bool.true_and]
   ·rw [decide_eq_false h20]
    simp only [pendulumref19_Small.j1]
    rw [if_neg Bool.false_ne_true, List.drop_of_length_le (by rw [List.length_take]; omega), hd16]; rfl
  ·rw [if_neg hi]
   simp only [pendulumref19_Small.j1]
   rw [if_neg Bool.false_ne_true, List.drop_of_length_le (by rw [List.length_take]; omega), hd16]; rfl
termination_by n _ _ _ _ => n
theorem small_eq (b : Int) (ts : List TK) (k : Nat) (hk : 60 ≤ k) : pendulumref19_Small.f k b ts = some (smallB ts) := by
 have h := small_loop b ts 20 0 k (by omega) (by omega)
 rw [List.drop_zero] at h
 exact h
theorem small_D {ts : List TK} (h : smallB ts = true) : ∀ t ∈ ts, t.f2 ≤ 3000 := by
 unfold smallB at h
 simp only [Bool.and_eq_true, decide_eq_true_eq] at h
 rw [List.take_of_length_le (by omega)] at h
 intro t ht
 have := List.all_eq_true.1 h.1 t ht
 simp only [Bool.and_eq_true, decide_eq_true_eq] at this
 exact this.1
theorem small_B {ts : List TK} (h : smallB ts = true) : (∀ t ∈ ts, 2 * (t.f2 + 2).toNat < 6100) ∧ ∀ t ∈ ts, (t.f2 + 2).toNat + 20 < 6100 :=
 ⟨fun t ht => by have := small_D h t ht; omega, fun t ht => by have := small_D h t ht; omega⟩
end Go.Proofs.YtefenbhcbpfihaaDoor.Q

-- The order of places, and verdicts of like sets (no program in sight).
namespace Go.Proofs.YtefenbhcbpfihaaDoor.Q
open Go.RowKit Go.Proofs.YtefenbhcbpfihaaDoorW.PrintWords Go.Proofs.YtefenbhcbpfihaaDoorW.PrintLast Go.Proofs.YtefenbhcbpfihaaDoorW.PrintMore
attribute [local go_sem] max2_int min2_int max_two min_two max_three min_three max_four min_four   -- for this text's walks alone
set_option linter.unusedVariables false
set_option linter.unusedSimpArgs false

theorem ordI_pair {ts : List TK} (hn : (ts.map (fun t => t.f10)).Nodup) : (ordI ts).Pairwise (fun x y => keyA ts x < keyA ts y) := by
 have hkey : ∀ i (h : i < ts.length), keyA ts i = ts[i].f10 := fun i h => by unfold keyA; simp [List.getD_eq_getElem?_getD, List.getElem?_eq_getElem h]
 unfold ordI
 rw [List.pairwise_map]
 have hs := List.pairwise_mergeSort (le := fun x y : Fin ts.length => decide (ts[x].f10 ≤ ts[y].f10)) (fun a b c h1 h2 => by simp at *; omega) (fun a b => by simp; omega) (List.finRange ts.length)
 have hd : (ordN ts).Nodup := (List.mergeSort_perm _ _).nodup_iff.2 (List.nodup_finRange _)
 refine (List.Pairwise.and hs hd).imp ?_
 rintro a b ⟨h1, h2⟩
 have h1 : ts[a].f10 ≤ ts[b].f10 := by simpa using h1
 have h3 : keyA ts a.val ≠ keyA ts b.val := fun e => h2 (Fin.ext (key_inj ts hn _ _ a.isLt b.isLt e))
 rw [hkey _ a.isLt, hkey _ b.isLt] at h3 ⊢
 have h1 : ts[a.val].f10 ≤ ts[b.val].f10 := h1
 omega
theorem ordI_mem (ts : List TK) (x : Nat) : x ∈ ordI ts ↔ x < ts.length :=
 ⟨ordI_lt ts x, fun h => List.mem_map.2 ⟨⟨x, h⟩, (List.mergeSort_perm _ _).mem_iff.2 (List.mem_finRange _), rfl⟩⟩
/-- Places by another list's keys. -/
theorem ordI_map (ts cs : List TK) (q : Nat → Nat) (ht : (ts.map (fun t => t.f10)).Nodup) (hc : (cs.map (fun t => t.f10)).Nodup) (hq : ∀ i, i < cs.length → q i < ts.length ∧ keyA cs i = keyA ts (q i)) (hs : ∀ x, x < ts.length → ∃ i, i < cs.length ∧ q i = x) : (ordI cs).map q = ordI ts := by
 refine sorted_unique (keyA ts) _ _ ?_ (ordI_pair ht) ?_
 ·rw [List.pairwise_map]
  refine List.Pairwise.imp_of_mem ?_ (ordI_pair hc)
  intro a b ha hb hab
  rw [(hq a (ordI_lt cs a ha)).2, (hq b (ordI_lt cs b hb)).2] at hab
  exact hab
 ·intro x
  rw [ordI_mem]
  constructor
  ·intro hx
   obtain ⟨i, hi, rfl⟩ := List.mem_map.1 hx
   exact (hq i (ordI_lt cs i hi)).1
  ·intro hx
   obtain ⟨i, hi, e⟩ := hs x hx
   exact List.mem_map.2 ⟨i, (ordI_mem cs i).2 hi, e⟩
def gapN (a : Int) : Int := 1 + a % 1049576
theorem gapN_range {a : Int} (h : 0 ≤ a) : 1 ≤ gapN a ∧ gapN a ≤ 1049576 := by unfold gapN; omega
theorem u32_range {a : Int} (h : (Lit.int .u32 a).wf = true) : 0 ≤ a ∧ a ≤ 4294967295 := by
 have h2 : (decide (IntKind.u32.min ≤ a) && decide (a ≤ IntKind.u32.max)) = true := h
 simp only [Bool.and_eq_true, decide_eq_true_eq] at h2
 rw [show IntKind.u32.min = 0 by kernel_rfl, show IntKind.u32.max = 4294967295 by kernel_rfl] at h2
 exact h2
theorem u8_range {a : Int} (h : (Lit.int .u8 a).wf = true) : 0 ≤ a ∧ a ≤ 255 := by
 have h2 : (decide (IntKind.u8.min ≤ a) && decide (a ≤ IntKind.u8.max)) = true := h
 simp only [Bool.and_eq_true, decide_eq_true_eq] at h2
 rw [show IntKind.u8.min = 0 by kernel_rfl, show IntKind.u8.max = 255 by kernel_rfl] at h2
 exact h2
end Go.Proofs.YtefenbhcbpfihaaDoor.Q

-- Verdicts of a set whose tasks are turned (no program in sight).
namespace Go.Proofs.YtefenbhcbpfihaaDoor.Q
open Go.RowKit Go.Proofs.YtefenbhcbpfihaaDoorW.PrintWords Go.Proofs.YtefenbhcbpfihaaDoorW.PrintLast Go.Proofs.YtefenbhcbpfihaaDoorW.PrintMore
attribute [local go_sem] max2_int min2_int max_two min_two max_three min_three max_four min_four   -- for this text's walks alone
set_option linter.unusedVariables false
set_option linter.unusedSimpArgs false

def rotL (q : Nat) (ts : List TK) : List TK := ts.drop q ++ ts.take q
def qq (n q i : Nat) : Nat := (i + q) % n
theorem rot_len (q : Nat) (ts : List TK) (hq : q ≤ ts.length) : (rotL q ts).length = ts.length := by unfold rotL; rw [List.length_append, List.length_drop, List.length_take]; omega
theorem qq_lt {n q i : Nat} (hn : 0 < n) : qq n q i < n := Nat.mod_lt _ hn
theorem qq_cases {n q i : Nat} (hq : q < n) (hi : i < n) : (i + q < n ∧ qq n q i = i + q) ∨ (n ≤ i + q ∧ qq n q i = i + q - n) := by
 unfold qq
 rcases Nat.lt_or_ge (i + q) n with h | h
 ·exact .inl ⟨h, Nat.mod_eq_of_lt h⟩
 ·refine .inr ⟨h, ?_⟩
  rw [Nat.mod_eq_sub_mod h, Nat.mod_eq_of_lt (by omega)]
theorem qq_inj {n q i j : Nat} (hq : q < n) (hi : i < n) (hj : j < n) (h : qq n q i = qq n q j) : i = j := by
 rcases qq_cases hq hi with ⟨h1, h2⟩ | ⟨h1, h2⟩ <;> rcases qq_cases hq hj with ⟨h3, h4⟩ | ⟨h3, h4⟩ <;> omega
theorem rot_get (q : Nat) (ts : List TK) (hq : q < ts.length) (i : Nat) (hi : i < ts.length) : (rotL q ts)[i]'(by rw [rot_len q ts (by omega)]; exact hi) = ts[qq ts.length q i]'(qq_lt (by omega)) := by
 apply Option.some.inj
 rw [← List.getElem?_eq_getElem, ← List.getElem?_eq_getElem]
 unfold rotL
 rcases qq_cases hq hi with ⟨h1, h2⟩ | ⟨h1, h2⟩
 ·rw [h2, List.getElem?_append_left (by rw [List.length_drop]; omega), List.getElem?_drop, Nat.add_comm]
 ·rw [h2, List.getElem?_append_right (by rw [List.length_drop]; omega), List.length_drop, List.getElem?_take, if_pos (by omega)]
  congr 1
  omega
theorem rot_right {b : Int} {ts : List TK} (h : RightS b ts) (q : Nat) (hq : q < ts.length) : RightS b (rotL q ts) := by
 have hl := rot_len q ts (by omega)
 refine RightS.mk' h.b0 h.b1 (by rw [hl]; exact h.n0) (by rw [hl]; exact h.n1) ?_ ?_
 ·intro t ht
  refine h.task ?_
  unfold rotL at ht
  rcases List.mem_append.1 ht with e | e
  ·exact List.mem_of_mem_drop e
  ·exact List.mem_of_mem_take e
 ·intro i j hi hj hij
  rw [hl] at hi hj
  rw [rot_get q ts hq i hi, rot_get q ts hq j hj]
  exact h.apart _ _ _ _ (fun e => by have := qq_inj hq hi hj e; omega)
theorem rot_resp {b : Int} {ts : List TK} (q : Nat) (hq : q < ts.length) (g : Int) (i : Nat) (hi : i < ts.length) : respI b (rotL q ts) g i = respI b ts g (qq ts.length q i) := by
 have hl := rot_len q ts (by omega)
 have hp : (rotL q ts).Perm ts := by
  unfold rotL
  refine (List.perm_append_comm).trans ?_
  rw [List.take_append_drop]
 unfold respI
 rw [tkA_get (rotL q ts) i (by rw [hl]; exact hi), tkA_get ts _ (qq_lt (by omega)), rot_get q ts hq i hi]
 congr 1
 funext w
 exact next_perm b hp _ g w
theorem jdg_turn {b : Int} {ts : List TK} (h : RightS b ts) (q : Nat) (hq : q < ts.length) (g : Int) :
  (jdg b (rotL q ts) g).1 = (jdg b ts g).1 ∧ (∀ i, i < ts.length → (jdg b (rotL q ts) g).2.2.getD i 0 = (jdg b ts g).2.2.getD (qq ts.length q i) 0) ∧ ((jdg b (rotL q ts) g).1 = false → ∃ i, i < ts.length ∧ (jdg b (rotL q ts) g).2.1 = (i : Int) ∧ (jdg b ts g).2.1 = (qq ts.length q i : Int)) := by
 have hl := rot_len q ts (by omega)
 have hr := rot_right h q hq
 have hm := ordI_map ts (rotL q ts) (qq ts.length q) h.nodup hr.nodup (fun i hi => by
  rw [hl] at hi
  refine ⟨qq_lt (by omega), ?_⟩
  rw [tkA_key _ i (by rw [hl]; exact hi), tkA_key ts _ (qq_lt (by omega)), tkA_get _ i (by rw [hl]; exact hi), tkA_get ts _ (qq_lt (by omega)), rot_get q ts hq i hi]) (fun x hx => by
  rcases Nat.lt_or_ge x q with hlt | hge
  ·refine ⟨x + ts.length - q, by rw [hl]; omega, ?_⟩
   rcases qq_cases (n := ts.length) hq (show x + ts.length - q < ts.length by omega) with ⟨h1, h2⟩ | ⟨h1, h2⟩ <;> omega
  ·refine ⟨x - q, by rw [hl]; omega, ?_⟩
   rcases qq_cases (n := ts.length) hq (show x - q < ts.length by omega) with ⟨h1, h2⟩ | ⟨h1, h2⟩ <;> omega)
 have ht := judge_turn (respI b (rotL q ts) g) (respI b ts g) (qq ts.length q) ts.length (fun i j hi hj e => qq_inj hq hi hj e) (fun i _ => qq_lt (by omega)) (ordI (rotL q ts)) (List.replicate ts.length 0) (List.replicate ts.length 0) (fun i hi => by have := ordI_lt _ i hi; rw [hl] at this; exact this) (fun i hi => rot_resp q hq g i hi) (by simp) (by simp) (fun i hi => by
  have h2 : qq ts.length q i < ts.length := qq_lt (by omega)
  simp [List.getD_eq_getElem?_getD, List.getElem?_replicate, hi, h2])
 rw [hm] at ht
 unfold jdg
 rw [hl]
 exact ht
end Go.Proofs.YtefenbhcbpfihaaDoor.Q

-- The least gap: what is accepted of a gap is of each greater one (no program in sight).
namespace Go.Proofs.YtefenbhcbpfihaaDoor.Q
open Go.RowKit Go.Proofs.YtefenbhcbpfihaaDoorW.PrintWords Go.Proofs.YtefenbhcbpfihaaDoorW.PrintLast Go.Proofs.YtefenbhcbpfihaaDoorW.PrintMore
attribute [local go_sem] max2_int min2_int max_two min_two max_three min_three max_four min_four   -- for this text's walks alone
set_option linter.unusedVariables false
set_option linter.unusedSimpArgs false

theorem judge_ok (resp : Nat → Option Int) : ∀ (l : List Nat) (R : List Int), (judgeL resp l R).1 = true ↔ ∀ i ∈ l, (resp i).isSome = true
 | [], R => by simp [judgeL]
 | i :: r, R => by
  rw [judgeL]
  cases h : resp i with
  | none => simp [h]
  | some x =>
   simp only [List.mem_cons, forall_eq_or_imp, h, Option.isSome_some, true_and]
   exact judge_ok resp r _
theorem respR_some (F : Int → Int) (D : Int) : ∀ (n : Nat) (w r : Int), respR F D n w = some r → w ≤ r ∧ r ≤ D ∧ F r = r
 | 0, w, r, h => by cases h
 | n + 1, w, r, h => by
  rw [respR] at h
  split at h
  ·rename_i hw
   split at h
   ·rename_i hf
    cases h
    exact ⟨Int.le_refl _, hw, hf⟩
   ·have := respR_some F D n (w + 1) r h
    exact ⟨by omega, this.2⟩
  ·cases h
theorem respR_is (F : Int → Int) (D x : Int) (hx : x ≤ D) (hf : F x = x) : ∀ (n : Nat) (w : Int), w ≤ x → x - w < n → (respR F D n w).isSome = true
 | 0, w, h, hn => by omega
 | n + 1, w, h, hn => by
  rw [respR, if_pos (by omega)]
  by_cases hw : F w = w
  ·rw [if_pos hw]; rfl
  ·rw [if_neg hw]
   have hne : w ≠ x := fun e => hw (by rw [e]; exact hf)
   exact respR_is F D x hx hf n (w + 1) (by omega) (by omega)
/-- Below a time that the recurrence makes no greater there is one that it leaves as it is. -/
theorem fix_below (F : Int → Int) (hm : ∀ a c, 0 ≤ a → a ≤ c → F a ≤ F c) (x : Int) (hx : F x ≤ x) : ∀ (n : Nat) (w : Int), 0 ≤ w → w ≤ x → w ≤ F w → x - w < n → ∃ y, w ≤ y ∧ y ≤ x ∧ F y = y
 | 0, w, h0, h1, h2, h3 => by omega
 | n + 1, w, h0, h1, h2, h3 => by
  by_cases hw : F w = w
  ·exact ⟨w, Int.le_refl _, h1, hw⟩
  ·have h4 : F w ≤ x := Int.le_trans (hm w x h0 h1) hx
   obtain ⟨y, y1, y2, y3⟩ := fix_below F hm x hx n (F w) (by omega) h4 (hm w (F w) h0 h2) (by omega)
   exact ⟨y, by omega, y2, y3⟩
/-- A recurrence that asks no more has a response where the other one has. -/
theorem resp_less (F F' : Int → Int) (D D' : Int) (hm : ∀ a c, 0 ≤ a → a ≤ c → F' a ≤ F' c) (h0 : 0 ≤ F' 0) (hle : ∀ w, 0 ≤ w → F' w ≤ F w) (hD : D ≤ D') (n n' : Nat) (hn' : D' + 1 < n') (h : (respR F D n 0).isSome = true) : (respR F' D' n' 0).isSome = true := by
 obtain ⟨r, hr⟩ := Option.isSome_iff_exists.1 h
 obtain ⟨r0, r1, r2⟩ := respR_some F D n 0 r hr
 obtain ⟨y, y0, y1, y2⟩ := fix_below F' hm r (by have := hle r r0; omega) (r + 1).toNat 0 (Int.le_refl _) r0 h0 (by omega)
 exact respR_is F' D' y (by omega) y2 n' 0 y0 (by omega)
theorem div_less {a g g' : Int} (ha : 0 ≤ a) (hg : 0 < g) (h : g ≤ g') : a / g' ≤ a / g := by
 have h1 := Int.ediv_nonneg ha (show 0 ≤ g' by omega)
 have h2 := Int.ediv_mul_le a (show g' ≠ 0 by omega)
 have h3 := Int.mul_le_mul_of_nonneg_left h h1
 exact (Int.le_ediv_iff_mul_le hg).2 (by omega)
theorem most_gap {w b g g' : Int} (hw : 0 ≤ w) (hb : 1 ≤ b) (hg : 1 ≤ g) (h : g ≤ g') : mostF w b g' ≤ mostF w b g := by
 rw [most_ref hw hb hg, most_ref hw hb (by omega)]
 by_cases h0 : w = 0
 ·rw [if_pos h0, if_pos h0]; exact Int.le_refl _
 ·rw [if_neg h0, if_neg h0]
  have := div_less (a := w + b - 2) (by omega) (show 0 < g by omega) h
  omega
theorem next_gap {b : Int} {ts : List TK} {t : TK} {g g' w : Int} (hw : 0 ≤ w) (hb : 1 ≤ b) (hg : 1 ≤ g) (h : g ≤ g') : nextF b ts t g' w ≤ nextF b ts t g w := by
 unfold nextF
 have h1 := Int.mul_le_mul_of_nonneg_right (most_gap hw hb hg h) (Int.mul_nonneg (show 0 ≤ b by omega) (dear_ge t.f10 ts 0))
 omega
/-- Is a set accepted of a gap? -/
def accB (b : Int) (ts : List TK) (g : Int) : Bool := (jdg b ts g).1
theorem acc_iff (b : Int) (ts : List TK) (g : Int) : accB b ts g = true ↔ ∀ i, i < ts.length → (respI b ts g i).isSome = true := by
 unfold accB jdg
 rw [judge_ok]
 exact ⟨fun h i hi => h i ((ordI_mem ts i).2 hi), fun h i hi => h i ((ordI_mem ts i).1 hi)⟩
theorem acc_mono {b : Int} {ts : List TK} (h : RightS b ts) {g g' : Int} (hg : 1 ≤ g) (hle : g ≤ g') (ha : accB b ts g = true) : accB b ts g' = true := by
 rw [acc_iff] at ha ⊢
 intro i hi
 have hd := (h.dem _ (tkA_mem ts i hi)).D1
 have h1 := ha i hi
 unfold respI at h1 ⊢
 exact resp_less _ _ _ _ (fun a c => h.mono (by omega) _ a c) (next_zero h (by omega) i hi) (fun w hw => next_gap hw h.b0 hg hle) (Int.le_refl _) _ _ (by omega) h1
/-- How many gaps, of N, are too little. -/
def gapK (b : Int) (ts : List TK) (N : Nat) : Nat := (List.range N).findIdx (fun i : Nat => accB b ts ((i : Int) + 1))
theorem gapK_le (b : Int) (ts : List TK) (N : Nat) : gapK b ts N ≤ N := by
 unfold gapK
 have := List.findIdx_le_length (p := fun i : Nat => accB b ts ((i : Int) + 1)) (xs := List.range N)
 rw [List.length_range] at this
 exact this
theorem gapK_less {b : Int} {ts : List TK} {N : Nat} (i : Nat) (h : i < gapK b ts N) : accB b ts ((i : Int) + 1) = false := by
 have hle := gapK_le b ts N
 unfold gapK at h
 have := List.not_of_lt_findIdx h
 simpa using this
theorem gapK_is {b : Int} {ts : List TK} {N : Nat} (h : gapK b ts N < N) : accB b ts ((gapK b ts N : Nat) + 1 : Int) = true := by
 have h2 : gapK b ts N < (List.range N).length := by rw [List.length_range]; exact h
 have := List.findIdx_getElem (p := fun i : Nat => accB b ts ((i : Int) + 1)) (xs := List.range N) (w := h2)
 have h4 : (List.range N)[List.findIdx (fun i : Nat => accB b ts ((i : Int) + 1)) (List.range N)]'h2 = gapK b ts N := List.getElem_range h2
 exact (congrArg (fun i : Nat => accB b ts ((i : Int) + 1)) h4).symm.trans this
theorem gapK_found {b : Int} {ts : List TK} {N : Nat} (i : Nat) (hi : i ≤ N) (hl : ∀ j, j < i → accB b ts ((j : Int) + 1) = false) (hg : i < N → accB b ts ((i : Int) + 1) = true) : gapK b ts N = i := by
 rcases Nat.lt_trichotomy (gapK b ts N) i with h | h | h
 ·have h1 := hl _ h
  rw [gapK_is (by omega)] at h1
  cases h1
 ·exact h
 ·have h1 := gapK_less i h
  rw [hg (by have := gapK_le b ts N; omega)] at h1
  cases h1
def gapI (b : Int) (ts : List TK) : Nat := gapK b ts 1049576
theorem gapI_le (b : Int) (ts : List TK) : gapI b ts ≤ 1049576 := gapK_le b ts _
theorem gapI_less {b : Int} {ts : List TK} (i : Nat) (h : i < gapI b ts) : accB b ts ((i : Int) + 1) = false := gapK_less i h
theorem gapI_is {b : Int} {ts : List TK} (h : gapI b ts < 1049576) : accB b ts ((gapI b ts : Nat) + 1 : Int) = true := gapK_is h
/-- Found by a search that parts the gaps. -/
theorem gapI_found {b : Int} {ts : List TK} (i : Nat) (hi : i ≤ 1049576) (hl : ∀ j, j < i → accB b ts ((j : Int) + 1) = false) (hg : i < 1049576 → accB b ts ((i : Int) + 1) = true) : gapI b ts = i := gapK_found i hi hl hg
end Go.Proofs.YtefenbhcbpfihaaDoor.Q
