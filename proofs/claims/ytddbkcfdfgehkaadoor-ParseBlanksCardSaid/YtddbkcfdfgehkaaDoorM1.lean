-- Texts of this claim, put together: HparsC, LparsT, Q9.
import Derived.Test.YtddbkcfdfgehkaaDoorM0
-- The parser's numbers: walked by hand.
namespace Go.Proofs.YtddbkcfdfgehkaaDoor.Q
open Go.RowKit Go.Proofs.YtddbkcfdfgehkaaDoorW.PrintWords Go.Proofs.YtddbkcfdfgehkaaDoorW.PrintLast Go.Proofs.YtddbkcfdfgehkaaDoorW.PrintMore
attribute [local go_sem] max2_int min2_int max_two min_two max_three min_three max_four min_four   -- for this text's walks alone
set_option linter.unusedVariables false
set_option linter.unusedSimpArgs false

attribute [local go_sem] tok_f0 tok_f1 tok_f2 tok_f3 tok_f4
section
variable {w0 W W' : World} {ok : Nat → Prop} {g : Nat} {A : Option Addr} {c : Nat} {vts vhs : Value} {p : PS}
def putNs (cs : Array Value) (os : List Nat) (vs : List Int) : Array Value := (os.zip vs).foldl (fun a x => a.setIfInBounds x.1 (.int .i64 x.2)) cs
theorem zip_snoc {α β : Type} : ∀ (os : List α) (vs : List β) (v : β) (h : vs.length < os.length), os.zip (vs ++ [v]) = os.zip vs ++ [(os[vs.length], v)]
  | [], vs, v, h => by simp at h
  | o :: os, [], v, h => by simp
  | o :: os, w :: vs, v, h => by simp [zip_snoc os vs v (by simpa using h)]
theorem putNs_snoc (cs : Array Value) (os : List Nat) (vs : List Int) (v : Int) (h : vs.length < os.length) : putNs cs os (vs ++ [v]) = (putNs cs os vs).setIfInBounds os[vs.length] (.int .i64 v) := by
  unfold putNs
  rw [zip_snoc os vs v h, List.foldl_append]
  rfl
theorem putNs_size (cs : Array Value) (os : List Nat) (vs : List Int) : (putNs cs os vs).size = cs.size := by
  unfold putNs
  have : ∀ (l : List (Nat × Int)) (a : Array Value), (l.foldl (fun a x => a.setIfInBounds x.1 (.int .i64 x.2)) a).size = a.size := by
    intro l
    induction l with
    | nil => intro a; rfl
    | cons x r ih => intro a; rw [List.foldl_cons, ih]; simp
  exact this _ _
theorem nums_len : ∀ (n : Nat) (p : PS), (PS.nums n p).2.length = n
  | 0, _ => rfl
  | n + 1, p => by simp [PS.nums, nums_len n p]
theorem nums_ends : ∀ (n : Nat) (p : PS), Ends p.l → Ends (PS.nums n p).1.l
  | 0, _, h => h
  | n + 1, p, h => take_ends (nums_ends n p h) 2 (by omega) []
set_option maxHeartbeats 2000000 in
set_option maxRecDepth 100000 in
theorem numbers_ask (h : PrsX w0 ok W g A c vts vhs p) (hl : Ends p.l) (q : Nat) (tq : TypeId) (cs : Array Value) (hq : W.heap[q]? = some (.cells cs tq (0, 0))) (hqg : q ≠ g) (hwq : w0.heap.size ≤ q) (hok : ∀ k, ok k → k ≠ q)
    (os : List Nat) (ho : ∀ i (h : i < os.length), os[i] < cs.size) (tb : Nat) (tcs : Array Value) (tt : TypeId) (htb : W.heap[tb]? = some (.cells tcs tt (0, 0))) (hto : ∀ i (h : i < os.length), tcs[i]? = some (.pointer (some ⟨q, os[i], none⟩))) (htg : tb ≠ g) (htq : tb ≠ q) (hol : os.length ≤ 1000000) (ct : Nat) (hct : os.length ≤ ct) :
    Calls Tryd.prog 32 #[.pointer (some ⟨g, 0, none⟩), .slice (some ⟨tb, 0, none⟩) os.length ct] W fun e W' => e = .returned (.tuple #[]) ∧ (∃ A' c', PrsX w0 ok W' g A' c' vts vhs (PS.nums os.length p).1) ∧ W'.heap[q]? = some (.cells (putNs cs os (PS.nums os.length p).2) tq (0, 0)) ∧ Kept W W' (fun k => k = g ∨ k = q) := by
  have HX := Aside0.mk h
  have HL := Aside0.mk hl
  have HQ := Aside0.mk hq
  have HTB := Aside0.mk htb
  have HTO := Aside0.mk hto
  have HO := Aside0.mk ho
  have HOK := Aside0.mk hok
  clear h hl hq htb hto ho hok
  go_enter Tryd.func32, Tryd.ntmps32
  go_wp2_with fail
  go_loopg [8] os.length (fun kk v8 wr => ∃ i : Nat, v8 = .int .i64 i ∧ i + kk = os.length ∧ Aside0 (∃ A' c', PrsX w0 ok wr g A' c' vts vhs (PS.nums i p).1) ∧ Aside0 (wr.heap[q]? = some (.cells (putNs cs os (PS.nums i p).2) tq (0, 0))) ∧ Aside0 (Kept W wr (fun k => k = g ∨ k = q)))
  case atStart => exact ⟨0, rfl, by omega, ⟨⟨A, c, HX.out⟩⟩, ⟨by unfold putNs; simpa [PS.nums] using HQ.out⟩, ⟨Kept.refl _ _⟩⟩
  case round =>
    clear HX HQ
    obtain ⟨i, rfl, hik, HX, HQ, HK⟩ := hrel
    by_cases hlt : i < os.length
    · have hd : decide ((i : Int) < (os.length : Int)) = true := by simp; omega
      obtain ⟨A', c', hX⟩ := HX.out
      have HX2 := Aside0.mk hX
      have htb2 := blk_kept HTB.out HK.out (fun h => by rcases h with h | h <;> omega)
      have hy : wr.cell? ⟨tb, i, none⟩ = some (.pointer (some ⟨q, os[i], none⟩)) := (blk_cell htb2 i).trans (HTO.out i hlt)
      have p0 : (0 : Int) ≤ i := by omega
      have p1 : (i : Int) < (os.length : Int) := by omega
      obtain ⟨o, hoi⟩ : ∃ o, os[i] = o := ⟨_, rfl⟩
      have HOI := Aside0.mk hoi
      have HOS : Aside0 (o < cs.size) := ⟨by rw [← hoi]; exact HO.out i hlt⟩
      rw [hoi] at hy
      have HTK := Aside0.mk (take_ask HX2.out (nums_ends i p HL.out).ne 2 none 0 [] (Kd.C_nil _ _) (Nat.le_refl _) (Nat.zero_le _))
      obtain ⟨pi, hpi⟩ : ∃ pi, (PS.nums i p) = pi := ⟨_, rfl⟩
      have HPI := Aside0.mk hpi
      rw [hpi] at HTK HX2 HQ
      clear hX htb2 hoi hpi HX
      go_wp2_with fail
      refine HTK.out.mono ?_
      rintro e wA ⟨rfl, hX, hk⟩
      obtain ⟨A2, c2, hX⟩ := hX
      have HXA := Aside0.mk hX
      have hqa := blk_kept HQ.out hk hqg
      have HQA := Aside0.mk hqa
      have HKA := Aside0.mk (kept_trans HK.out (kept_mono hk (fun k h => .inl h)))
      have hos2 : o < (putNs cs os pi.2).size := by rw [putNs_size]; exact HOS.out
      have z0 : wA.cell? ⟨q, o, none⟩ = some ((putNs cs os pi.2)[o]) := (blk_cell hqa o).trans (Array.getElem?_eq_getElem hos2)
      have z1 := blk_frozen hqa o
      obtain ⟨zv, hzv⟩ : ∃ zv, (putNs cs os pi.2)[o] = zv := ⟨_, rfl⟩
      rw [hzv] at z0
      unfold tokC
      clear hX hk hqa hos2 hzv HX2 HQ HK HTK hy
      go_wp2_with fail
      go_roundg (os.length - (i + 1))
      case measure => omega
      case rel =>
        have hlen : pi.2.length = i := by rw [← HPI.out]; exact nums_len i p
        have hn1 : PS.nums (i + 1) p = ((pi.1.take 2 []).1, pi.2 ++ [(pi.1.take 2 []).2.f2]) := by rw [PS.nums, HPI.out]; rfl
        refine ⟨i + 1, by first | rfl | simp, by omega, ⟨⟨A2, c2, ?_⟩⟩, ⟨?_⟩, ⟨HKA.out.setCell (p := ⟨q, o, none⟩) (.inl (.inr rfl)) _⟩⟩
        · rw [hn1]; exact HXA.out.far hqg HOK.out hwq o _
        · rw [hn1]
          rw [putNs_snoc cs os pi.2 _ (by omega)]
          have e1 : os[pi.2.length]'(by omega) = o := by rw [← HOI.out]; congr 1
          rw [e1]
          exact blk_put HQA.out o _ rfl
    · have hd : decide ((i : Int) < (os.length : Int)) = false := by simp; omega
      obtain rfl : i = os.length := by omega
      go_wp2_with fail
      first | go_end0 | ((try simp only [Exit.inBlock, Exit.then]); refine bodyPost_ret (results_none rfl _ _ _) rfl ?_)
      exact ⟨rfl, HX.out, HQ.out, HK.out⟩
set_option maxHeartbeats 2000000 in
set_option maxRecDepth 100000 in
theorem burst_ask (h : PrsX w0 ok W g A c vts vhs p) (hl : Ends p.l) (tb : Nat) (tt : TypeId) (htb : W.heap[tb]? = some (.cells #[.pointer (some ⟨g, 4, none⟩)] tt (0, 0))) (htg : tb ≠ g) :
    Calls Tryd.prog 32 #[.pointer (some ⟨g, 0, none⟩), .slice (some ⟨tb, 0, none⟩) 1 1] W fun e W' => e = .returned (.tuple #[]) ∧ (∃ A' c', PrsX w0 ok W' g A' c' vts vhs { p.num.1 with b := p.num.2 }) ∧ Kept W W' (fun k => k = g) := by
  have HX := Aside0.mk h
  have HL := Aside0.mk hl
  have HTB := Aside0.mk htb
  clear h hl htb
  go_enter Tryd.func32, Tryd.ntmps32
  go_wp2_with fail
  go_loopg [8] 1 (fun kk v8 wr => ∃ i : Nat, v8 = .int .i64 i ∧ i + kk = 1 ∧ Aside0 (i = 0 → PrsX w0 ok wr g A c vts vhs p) ∧ Aside0 (i = 1 → ∃ A' c', PrsX w0 ok wr g A' c' vts vhs { p.num.1 with b := p.num.2 }) ∧ Aside0 (Kept W wr (fun k => k = g)))
  case atStart => exact ⟨0, rfl, by omega, ⟨fun _ => HX.out⟩, ⟨fun h => absurd h (by omega)⟩, ⟨Kept.refl _ _⟩⟩
  case round =>
    clear HX
    obtain ⟨i, rfl, hik, HX, HY, HK⟩ := hrel
    by_cases hlt : i < 1
    · obtain rfl : i = 0 := by omega
      have HX2 := Aside0.mk (HX.out rfl)
      have htb2 := blk_kept HTB.out HK.out htg
      have hy : wr.cell? ⟨tb, 0, none⟩ = some (.pointer (some ⟨g, 4, none⟩)) := blk_cell htb2 0
      have HTK := Aside0.mk (take_ask HX2.out HL.out.ne 2 none 0 [] (Kd.C_nil _ _) (Nat.le_refl _) (Nat.zero_le _))
      clear htb2 HX HY
      go_wp2_with fail
      refine HTK.out.mono ?_
      rintro e wA ⟨rfl, hX, hk⟩
      obtain ⟨A2, c2, hX⟩ := hX
      have HXA := Aside0.mk hX
      have HKA := Aside0.mk (kept_trans HK.out hk)
      have z0 : wA.cell? ⟨g, 4, none⟩ = some (.int .i64 (p.take 2 []).1.b) := blk_cell hX.1 4
      have z1 := blk_frozen hX.1 4
      unfold tokC
      clear hX hk HX2 HK HTK hy
      go_wp2_with fail
      go_roundg 0
      case measure => omega
      case rel => exact ⟨1, by first | rfl | simp, by omega, ⟨fun h => absurd h (by omega)⟩, ⟨fun _ => ⟨A2, c2, HXA.out.put 4 _ (A' := A2) (c' := c2) (p' := { (p.take 2 []).1 with b := (p.take 2 []).2.f2 }) rfl HXA.out.2.2.1 HXA.out.2.2.2.1 rfl rfl⟩⟩, ⟨HKA.out.setCell (p := ⟨g, 4, none⟩) (.inl rfl) _⟩⟩
    · obtain rfl : i = 1 := by omega
      go_wp2_with fail
      first | go_end0 | ((try simp only [Exit.inBlock, Exit.then]); refine bodyPost_ret (results_none rfl _ _ _) rfl ?_)
      exact ⟨rfl, HY.out (by first | rfl | trivial), HK.out⟩
/-- A row of texts that a call lays. -/
theorem texts_C (W : World) (ss : List ByteArray) (hl : ss.length ≤ 1000) : Kd.C Kd.string (W.alloc (.cells (ss.map Value.string).toArray 9 (0, 0))) (some ⟨W.heap.size, 0, none⟩) ss.length ss := by
  refine ⟨rfl, by omega, fun _ => ⟨_, rfl, fun j q hj => ⟨[.string q], rfl, rfl, fun i u hu => ?_⟩⟩⟩
  obtain ⟨rfl, rfl⟩ : i = 0 ∧ u = .string q := by
    cases i with
    | zero => exact ⟨rfl, by simpa using hu.symm⟩
    | succ i => simp at hu
  have hb := blk_cell (blk_new W (.cells (ss.map Value.string).toArray 9 (0, 0))) j
  have e : (⟨W.heap.size, 0, none⟩ : Addr).add (j * Kd.string.sz + 0) = ⟨W.heap.size, j, none⟩ := by
    rw [show j * Kd.string.sz + 0 = j by simp [Kd.string, Kd.scalar], add_at, Nat.zero_add]
  rw [e, hb]
  simp [hj]
set_option maxHeartbeats 2000000 in
set_option maxRecDepth 100000 in
theorem first_ask (h : PrsX w0 ok W g A c vts vhs p) (hl : Ends p.l) :
    Calls Tryd.prog 18 #[.pointer (some ⟨g, 0, none⟩)] W fun e W' => e = .returned (.tuple #[]) ∧ (∃ A' c', PrsX w0 ok W' g A' c' vts vhs p.first) ∧ Ends p.first.l ∧ Kept W W' (fun k => k = g) := by
  have HX := Aside0.mk h
  have HL := Aside0.mk hl
  have HGL : Aside0 (g < W.heap.size) := ⟨blk_lt h.1⟩
  clear h hl
  go_enter Tryd.func18, Tryd.ntmps18
  go_wp2_with fail
  have hb1 : Below W.heap.size W (W.alloc (.cells #[.string wBurst] 9 (0, 0))) := below_alloc (Below.refl _ _) _
  refine (take_ask (HX.out.below hb1) HL.out.ne 1 _ 1 [wBurst] (texts_C W [wBurst] (by decide)) (Nat.le_refl _) (by decide)).mono ?_
  rintro e wA ⟨rfl, hX, hk⟩
  obtain ⟨A2, c2, hX⟩ := hX
  have HKA := Aside0.mk (kept_trans (Kept.of_below hb1 (fun k => k = g)) hk)
  have HXA := Aside0.mk hX
  have HLA := Aside0.mk (take_ends HL.out 1 (by omega) [wBurst])
  obtain ⟨p1, hp1⟩ : ∃ p1, (p.take 1 [wBurst]).1 = p1 := ⟨_, rfl⟩
  have HP1 := Aside0.mk hp1
  rw [hp1] at HXA HLA
  clear hX hk hb1 hp1 HX
  go_wp2_with fail
  refine (now_ask HXA.out HLA.out.ne).mono ?_
  rintro e wB ⟨rfl, hb⟩
  have HXB := Aside0.mk (HXA.out.below hb)
  have HKB := Aside0.mk (kept_trans HKA.out (Kept.of_below hb (fun k => k = g)))
  have z6 : wB.cell? ⟨g, 6, none⟩ = some (.int .i64 p1.bt.f0) := blk_cell HXB.out.1 6
  have z7 : wB.cell? ⟨g, 7, none⟩ = some (.string p1.bt.f1) := blk_cell HXB.out.1 7
  have z8 : wB.cell? ⟨g, 8, none⟩ = some (.int .i64 p1.bt.f2) := blk_cell HXB.out.1 8
  have z9 : wB.cell? ⟨g, 9, none⟩ = some (.int .i64 p1.bt.f3) := blk_cell HXB.out.1 9
  have z10 : wB.cell? ⟨g, 10, none⟩ = some (.int .i64 p1.bt.f4) := blk_cell HXB.out.1 10
  have y6 := blk_frozen HXB.out.1 6
  have y7 := blk_frozen HXB.out.1 7
  have y8 := blk_frozen HXB.out.1 8
  have y9 := blk_frozen HXB.out.1 9
  have y10 := blk_frozen HXB.out.1 10
  unfold tokC
  clear hb HXA HKA
  go_wp2_with fail
  obtain ⟨wC, hwC⟩ : ∃ wC, wC = ((((wB.setCell ⟨g, 6, none⟩ (.int .i64 p1.now.f0)).setCell ⟨g, 7, none⟩ (.string p1.now.f1)).setCell ⟨g, 8, none⟩ (.int .i64 p1.now.f2)).setCell ⟨g, 9, none⟩ (.int .i64 p1.now.f3)).setCell ⟨g, 10, none⟩ (.int .i64 p1.now.f4) := ⟨_, rfl⟩
  have hx1 := HXB.out.put 6 (.int .i64 p1.now.f0) (A' := A2) (c' := c2) (p' := { p1 with bt := { p1.bt with f0 := p1.now.f0 } }) rfl HXB.out.2.2.1 HXB.out.2.2.2.1 rfl rfl
  have hx2 := hx1.put 7 (.string p1.now.f1) (A' := A2) (c' := c2) (p' := { p1 with bt := { p1.bt with f0 := p1.now.f0, f1 := p1.now.f1 } }) rfl HXB.out.2.2.1 HXB.out.2.2.2.1 rfl rfl
  have hx3 := hx2.put 8 (.int .i64 p1.now.f2) (A' := A2) (c' := c2) (p' := { p1 with bt := { p1.bt with f0 := p1.now.f0, f1 := p1.now.f1, f2 := p1.now.f2 } }) rfl HXB.out.2.2.1 HXB.out.2.2.2.1 rfl rfl
  have hx4 := hx3.put 9 (.int .i64 p1.now.f3) (A' := A2) (c' := c2) (p' := { p1 with bt := { p1.bt with f0 := p1.now.f0, f1 := p1.now.f1, f2 := p1.now.f2, f3 := p1.now.f3 } }) rfl HXB.out.2.2.1 HXB.out.2.2.2.1 rfl rfl
  have hx5 : PrsX w0 ok wC g A2 c2 vts vhs { p1 with bt := p1.now } := by rw [hwC]; exact hx4.put 10 (.int .i64 p1.now.f4) (A' := A2) (c' := c2) (p' := { p1 with bt := p1.now }) rfl HXB.out.2.2.1 HXB.out.2.2.2.1 rfl rfl
  have hsz : wC.heap.size = wB.heap.size := by rw [hwC]; simp
  have hkc : Kept W wC (fun k => k = g) := by rw [hwC]; exact ((((HKB.out.setCell (p := ⟨g, 6, none⟩) (.inl rfl) _).setCell (p := ⟨g, 7, none⟩) (.inl rfl) _).setCell (p := ⟨g, 8, none⟩) (.inl rfl) _).setCell (p := ⟨g, 9, none⟩) (.inl rfl) _).setCell (p := ⟨g, 10, none⟩) (.inl rfl) _
  have hgw : g < wB.heap.size := blk_lt HXB.out.1
  rw [← hwC, ← hsz]
  have HXC := Aside0.mk hx5
  have HKC := Aside0.mk hkc
  have HSZ := Aside0.mk hsz
  clear hx1 hx2 hx3 hx4 hx5 hkc hwC HXB HKB z6 z7 z8 z9 z10 y6 y7 y8 y9 y10 hsz
  have hb2 : Below wC.heap.size wC (wC.alloc (.cells #[.pointer (some ⟨g, 4, none⟩)] 67 (0, 0))) := below_alloc (Below.refl _ _) _
  refine (burst_ask (HXC.out.below hb2) HLA.out wC.heap.size _ (blk_new wC _) (by have := HSZ.out; omega)).mono ?_
  rintro e wD ⟨rfl, hX, hk⟩
  obtain ⟨A3, c3, hX⟩ := hX
  have HKD := Aside0.mk (kept_trans (kept_trans HKC.out (Kept.of_below hb2 (fun k => k = g))) hk)
  have HXD := Aside0.mk hX
  have HLD : Aside0 (Ends ({ ({ p1 with bt := p1.now } : PS).num.1 with b := ({ p1 with bt := p1.now } : PS).num.2 } : PS).l) := ⟨take_ends (p := { p1 with bt := p1.now }) HLA.out 2 (by omega) []⟩
  have HFI : Aside0 (p.first = ({ ({ p1 with bt := p1.now } : PS).num.1 with b := ({ p1 with bt := p1.now } : PS).num.2 } : PS).fin) := ⟨by unfold PS.first; rw [HP1.out]⟩
  obtain ⟨p2, hp2⟩ : ∃ p2, ({ ({ p1 with bt := p1.now } : PS).num.1 with b := ({ p1 with bt := p1.now } : PS).num.2 } : PS) = p2 := ⟨_, rfl⟩
  rw [hp2] at HXD HLD HFI
  clear hX hk hb2 HXC HKC hp2
  go_wp2_with fail
  refine (fin_ask HXD.out HLD.out).mono ?_
  rintro e wE ⟨rfl, hX, hk⟩
  have HKE := Aside0.mk (kept_trans HKD.out hk)
  have HXE := Aside0.mk hX
  clear hX hk
  go_wp2_with fail
  first | go_end0 | ((try simp only [Exit.inBlock, Exit.then]); refine bodyPost_ret (results_none rfl _ _ _) rfl ?_)
  rw [HFI.out]
  exact ⟨rfl, HXE.out, fin_ends HLD.out, HKE.out⟩
end
end Go.Proofs.YtddbkcfdfgehkaaDoor.Q

-- A text that is read, behind itself: the parser fails at the second one's first word (no program in sight).
namespace Go.Proofs.YtddbkcfdfgehkaaDoor.Q
open Go.RowKit Go.Proofs.YtddbkcfdfgehkaaDoorW.PrintWords Go.Proofs.YtddbkcfdfgehkaaDoorW.PrintLast Go.Proofs.YtddbkcfdfgehkaaDoorW.PrintMore
attribute [local go_sem] max2_int min2_int max_two min_two max_three min_three max_four min_four   -- for this text's walks alone
set_option linter.unusedVariables false
set_option linter.unusedSimpArgs false

def nlk (t : TOK) : Bool := t.f0 == 3
def Inner (r : List TOK) : Prop := ∀ x ∈ r, x.f0 ≠ 4
/-- The same states, but for the tokens that are left: 'q' has 'nl :: S' in the place of the end 't'. -/
def ExtR (t nl : TOK) (S : List TOK) (p q : PS) : Prop := q = { p with l := q.l } ∧ ∃ r, Inner r ∧ p.l = r ++ [t] ∧ q.l = r ++ nl :: S
def DoneR (t : TOK) (S : List TOK) (p q : PS) : Prop := q = { p with l := q.l } ∧ p.l = [t] ∧ q.l.dropWhile nlk = S.dropWhile nlk
section
variable {t nl : TOK} {S : List TOK} {p q : PS} (ht : t.f0 = 4) (hn : nl.f0 = 3)
theorem take_fit (p : PS) (k : Int) (tx : List ByteArray) (h : (p.take k tx).1.e = 0) : p.fits k tx = true ∧ p.e = 0 ∧ p.now.f0 = k := by
  have hf : p.fits k tx = true := by
    rcases Decidable.em (p.fits k tx = true) with h1 | h1
    · exact h1
    · exfalso
      unfold PS.take at h
      rw [if_neg h1] at h
      unfold PS.fail at h
      split at h
      · exact absurd h (by show ¬ (5 : Int) = 0; omega)
      · rename_i hne; exact hne h
  refine ⟨hf, ?_⟩
  unfold PS.fits at hf
  simp only [Bool.and_eq_true, beq_iff_eq] at hf
  exact hf.1
include ht in
theorem ExtR.head (h : ExtR t nl S p q) (hk : p.now.f0 ≠ 4) : ∃ a r, Inner (a :: r) ∧ p.l = a :: (r ++ [t]) ∧ q.l = a :: (r ++ nl :: S) := by
  obtain ⟨h0, r, hi, h1, h2⟩ := h
  cases r with
  | nil => exact absurd (by unfold PS.now; rw [h1]; exact ht) hk
  | cons a r => exact ⟨a, r, hi, h1, h2⟩
theorem fits_same (h : q = { p with l := q.l }) (hn : q.now = p.now) (k : Int) (tx : List ByteArray) : q.fits k tx = p.fits k tx := by
  have he : q.e = p.e := by rw [h]
  unfold PS.fits
  rw [he, hn]
include ht in
theorem take_ext (h : ExtR t nl S p q) (k : Int) (hk : k ≠ 4) (tx : List ByteArray) (he : (p.take k tx).1.e = 0) : ExtR t nl S (p.take k tx).1 (q.take k tx).1 ∧ (q.take k tx).2 = (p.take k tx).2 := by
  obtain ⟨hf, he0, hk0⟩ := take_fit p k tx he
  obtain ⟨a, r, hi, h1, h2⟩ := h.head ht (by rw [hk0]; exact hk)
  have hnow : q.now = p.now := by unfold PS.now; rw [h1, h2]; rfl
  have hfq := (fits_same h.1 hnow k tx).trans hf
  unfold PS.take
  rw [if_pos hf, if_pos hfq]
  refine ⟨⟨?_, r, fun x hx => hi x (List.mem_cons_of_mem _ hx), by show p.l.tail = _; rw [h1]; rfl, by show q.l.tail = _; rw [h2]; rfl⟩, hnow⟩
  show ({ q with l := q.l.tail } : PS) = { ({ p with l := p.l.tail } : PS) with l := q.l.tail }
  rw [h.1]
include ht in
theorem nums_ext (h : ExtR t nl S p q) : ∀ (n : Nat), (PS.nums n p).1.e = 0 → ExtR t nl S (PS.nums n p).1 (PS.nums n q).1 ∧ (PS.nums n q).2 = (PS.nums n p).2
  | 0, _ => ⟨h, rfl⟩
  | n + 1, he => by
    have he' : ((PS.nums n p).1.take 2 []).1.e = 0 := he
    have h1 : (PS.nums n p).1.e = 0 := (take_fit _ _ _ he').2.1
    obtain ⟨h2, h3⟩ := nums_ext h n h1
    obtain ⟨h4, h5⟩ := take_ext ht h2 2 (by decide) [] he'
    refine ⟨h4, ?_⟩
    show (PS.nums n q).2 ++ [((PS.nums n q).1.take 2 []).2.f2] = (PS.nums n p).2 ++ [((PS.nums n p).1.take 2 []).2.f2]
    rw [h3, h5]
include ht hn in
theorem fin_ext (h : ExtR t nl S p q) (he : p.fin.e = 0) : ExtR t nl S p.fin q.fin ∨ DoneR t S p.fin q.fin := by
  have he0 : p.e = 0 := by
    rcases Decidable.em (p.e = 0) with h1 | h1
    · exact h1
    · exact absurd he (fin_e p h1)
  have heq : q.e = 0 := by rw [h.1]; exact he0
  by_cases h4 : p.now.f0 = 4
  · right
    obtain ⟨h0, r, hi, h1, h2⟩ := h
    have hr : r = [] := by
      cases r with
      | nil => rfl
      | cons a r => exact absurd (by rw [← h4]; unfold PS.now; rw [h1]; rfl) (hi a List.mem_cons_self)
    subst hr
    have hqn : q.now = nl := by unfold PS.now; rw [h2]; rfl
    have e1 : p.fin = p := by unfold PS.fin; rw [if_pos ⟨he0, h4⟩]
    have e2 : q.fin = { q with l := S } := by
      unfold PS.fin
      rw [if_neg (fun hh => by rw [hqn, hn] at hh; exact absurd hh.2 (by decide))]
      unfold PS.take
      rw [if_pos (by unfold PS.fits; rw [hqn, hn, heq]; rfl)]
      rw [h2]; rfl
    rw [e1, e2]
    refine ⟨?_, h1, rfl⟩
    show ({ q with l := S } : PS) = { p with l := S }
    rw [h0]
  · left
    have e1 : p.fin = (p.take 3 []).1 := by unfold PS.fin; rw [if_neg (fun hh => h4 hh.2)]
    obtain ⟨a, r, hi, h1, h2⟩ := h.head ht h4
    have hnow : q.now = p.now := by unfold PS.now; rw [h1, h2]; rfl
    have e2 : q.fin = (q.take 3 []).1 := by unfold PS.fin; rw [if_neg (fun hh => h4 (by rw [← hnow]; exact hh.2))]
    rw [e1] at he ⊢
    rw [e2]
    exact (take_ext ht h 3 (by decide) [] he).1
theorem dw_all {r : List TOK} (h : ∀ x ∈ r, nlk x = true) (s : List TOK) : (r ++ s).dropWhile nlk = s.dropWhile nlk := by
  induction r with
  | nil => rfl
  | cons a r ih => rw [List.cons_append, List.dropWhile_cons, if_pos (h a List.mem_cons_self)]; exact ih (fun x hx => h x (List.mem_cons_of_mem _ hx))
theorem dw_some : ∀ {r : List TOK}, ¬ (∀ x ∈ r, nlk x = true) → ∃ a r', nlk a = false ∧ (∀ x ∈ a :: r', x ∈ r) ∧ ∀ s, (r ++ s).dropWhile nlk = a :: (r' ++ s)
  | [], h => absurd (fun _ hx => by cases hx) h
  | a :: r, h => by
    by_cases ha : nlk a = true
    · have h2 : ¬ ∀ x ∈ r, nlk x = true := fun h2 => h (fun x hx => (List.mem_cons.1 hx).elim (fun e => e ▸ ha) (h2 x))
      obtain ⟨b, r', h3, h4, h5⟩ := dw_some h2
      exact ⟨b, r', h3, fun x hx => List.mem_cons_of_mem _ (h4 x hx), fun s => by rw [List.cons_append, List.dropWhile_cons, if_pos ha]; exact h5 s⟩
    · exact ⟨a, r, Bool.eq_false_iff.2 ha, fun x hx => hx, fun s => by rw [List.cons_append, List.dropWhile_cons, if_neg ha]⟩
theorem dw_idem (s : List TOK) : (s.dropWhile nlk).dropWhile nlk = s.dropWhile nlk := by
  induction s with
  | nil => rfl
  | cons a r ih =>
    by_cases ha : nlk a = true
    · rw [List.dropWhile_cons, if_pos ha]; exact ih
    · rw [List.dropWhile_cons, if_neg ha, List.dropWhile_cons, if_neg ha]
/-- Behind blank. -/
def BlankR (t nl : TOK) (S : List TOK) (p q : PS) : Prop := q = { p with l := q.l } ∧ ((∃ a r, Inner (a :: r) ∧ p.l = a :: (r ++ [t]) ∧ q.l = a :: (r ++ nl :: S)) ∨ (p.l = [t] ∧ q.l = S.dropWhile nlk))
theorem blank_of (p q : PS) (h : q = { p with l := q.l }) : q.blank = { p.blank with l := q.l.dropWhile nlk } := by
  unfold PS.blank
  show ({ q with l := q.l.dropWhile nlk } : PS) = { p with l := q.l.dropWhile nlk }
  rw [h]
include ht hn in
theorem blank_ext (h : ExtR t nl S p q ∨ DoneR t S p q) : BlankR t nl S p.blank q.blank := by
  have hnt : nlk t = false := by unfold nlk; rw [ht]; rfl
  have hnn : nlk nl = true := by unfold nlk; rw [hn]; rfl
  have hbl : p.blank.l = p.l.dropWhile nlk := rfl
  have hbq : q.blank.l = q.l.dropWhile nlk := rfl
  rcases h with ⟨h0, r, hi, h1, h2⟩ | ⟨h0, h1, h2⟩
  · refine ⟨blank_of p q h0, ?_⟩
    rw [hbl, hbq, h1, h2]
    by_cases hall : ∀ x ∈ r, nlk x = true
    · right
      rw [dw_all hall, dw_all hall, List.dropWhile_cons, if_neg (by rw [hnt]; decide), List.dropWhile_cons, if_pos hnn]
      exact ⟨rfl, rfl⟩
    · left
      obtain ⟨a, r', h3, h4, h5⟩ := dw_some hall
      exact ⟨a, r', fun x hx => hi x (h4 x hx), h5 _, h5 _⟩
  · refine ⟨blank_of p q h0, .inr ⟨?_, ?_⟩⟩
    · rw [hbl, h1, List.dropWhile_cons, if_neg (by rw [hnt]; decide)]
    · rw [hbq]; exact h2
theorem BlankR.ext (h : BlankR t nl S p q) (hk : p.now.f0 ≠ 4) (ht : t.f0 = 4) : ExtR t nl S p q ∧ q.now = p.now := by
  obtain ⟨h0, ⟨a, r, hi, h1, h2⟩ | ⟨h1, h2⟩⟩ := h
  · exact ⟨⟨h0, a :: r, hi, h1, h2⟩, by unfold PS.now; rw [h1, h2]; rfl⟩
  · exact absurd (by unfold PS.now; rw [h1]; exact ht) hk
include ht hn in
theorem one_ext (h : ExtR t nl S p q) (hnow : q.now = p.now) (he : p.one.e = 0) : ExtR t nl S p.one q.one ∨ DoneR t S p.one q.one := by
  obtain ⟨p1, hp1⟩ : ∃ p1 : PS, { p with hs := p.hs ++ [p.now] } = p1 := ⟨_, rfl⟩
  obtain ⟨q1, hq1⟩ : ∃ q1 : PS, { q with hs := q.hs ++ [q.now] } = q1 := ⟨_, rfl⟩
  have h1 : ExtR t nl S p1 q1 := by
    obtain ⟨h0, r, hi, h1, h2⟩ := h
    refine ⟨?_, r, hi, by rw [← hp1]; exact h1, by rw [← hq1]; exact h2⟩
    rw [← hp1, ← hq1, hnow]
    show ({ q with hs := q.hs ++ [p.now] } : PS) = { p with hs := p.hs ++ [p.now], l := q.l }
    have e1 : q.hs = p.hs := by rw [h0]
    rw [e1]
    conv => lhs; rw [h0]
  have he7 : (PS.nums 6 ((PS.nums 3 ((p1.take 1 [wTask]).1.take 1 []).1).1.take 1 [wRetry, wBlock, wBackup]).1).1.fin.e = 0 := by
    rw [← he]; unfold PS.one; simp only [hp1]
  have he6 : (PS.nums 6 ((PS.nums 3 ((p1.take 1 [wTask]).1.take 1 []).1).1.take 1 [wRetry, wBlock, wBackup]).1).1.e = 0 := by
    rcases Decidable.em ((PS.nums 6 ((PS.nums 3 ((p1.take 1 [wTask]).1.take 1 []).1).1.take 1 [wRetry, wBlock, wBackup]).1).1.e = 0) with hx | hx
    · exact hx
    · exact absurd he7 (fin_e _ hx)
  have he5 : ((PS.nums 3 ((p1.take 1 [wTask]).1.take 1 []).1).1.take 1 [wRetry, wBlock, wBackup]).1.e = 0 := by
    rcases Decidable.em (((PS.nums 3 ((p1.take 1 [wTask]).1.take 1 []).1).1.take 1 [wRetry, wBlock, wBackup]).1.e = 0) with hx | hx
    · exact hx
    · exact absurd he6 (nums_e _ _ hx)
  have he4 := (take_fit _ _ _ he5).2.1
  have he3 : ((p1.take 1 [wTask]).1.take 1 []).1.e = 0 := by
    rcases Decidable.em (((p1.take 1 [wTask]).1.take 1 []).1.e = 0) with hx | hx
    · exact hx
    · exact absurd he4 (nums_e _ _ hx)
  have he2 := (take_fit _ _ _ he3).2.1
  obtain ⟨x2, -⟩ := take_ext ht h1 1 (by decide) [wTask] he2
  obtain ⟨x3, y3⟩ := take_ext ht x2 1 (by decide) [] he3
  obtain ⟨x4, y4⟩ := nums_ext ht x3 3 he4
  obtain ⟨x5, y5⟩ := take_ext ht x4 1 (by decide) [wRetry, wBlock, wBackup] he5
  obtain ⟨x6, y6⟩ := nums_ext ht x5 6 he6
  have x7 := fin_ext ht hn x6 he7
  unfold PS.one
  simp only [hp1, hq1, y3, y4, y5, y6]
  rcases x7 with ⟨a0, r, hi, a1, a2⟩ | ⟨a0, a1, a2⟩
  · left
    refine ⟨?_, r, hi, a1, a2⟩
    conv => lhs; rw [a0]
  · right
    refine ⟨?_, a1, a2⟩
    conv => lhs; rw [a0]
include ht hn in
theorem first_ext (h : ExtR t nl S p q) (he : p.first.e = 0) : ExtR t nl S p.first q.first ∨ DoneR t S p.first q.first := by
  have ef : ∀ x : PS, x.first = ({ (({ (x.take 1 [wBurst]).1 with bt := (x.take 1 [wBurst]).1.now } : PS).take 2 []).1 with b := (({ (x.take 1 [wBurst]).1 with bt := (x.take 1 [wBurst]).1.now } : PS).take 2 []).2.f2 } : PS).fin := fun _ => rfl
  rw [ef] at he
  have he2 : ({ (({ (p.take 1 [wBurst]).1 with bt := (p.take 1 [wBurst]).1.now } : PS).take 2 []).1 with b := (({ (p.take 1 [wBurst]).1 with bt := (p.take 1 [wBurst]).1.now } : PS).take 2 []).2.f2 } : PS).e = 0 := by
    rcases Decidable.em (({ (({ (p.take 1 [wBurst]).1 with bt := (p.take 1 [wBurst]).1.now } : PS).take 2 []).1 with b := (({ (p.take 1 [wBurst]).1 with bt := (p.take 1 [wBurst]).1.now } : PS).take 2 []).2.f2 } : PS).e = 0) with hx | hx
    · exact hx
    · exact absurd he (fin_e _ hx)
  have he3 : (({ (p.take 1 [wBurst]).1 with bt := (p.take 1 [wBurst]).1.now } : PS).take 2 []).1.e = 0 := he2
  obtain ⟨hf, he1, hk⟩ := take_fit _ _ _ he3
  have he1' : (p.take 1 [wBurst]).1.e = 0 := he1
  have hk' : (p.take 1 [wBurst]).1.now.f0 = 2 := hk
  obtain ⟨x1, -⟩ := take_ext ht h 1 (by decide) [wBurst] he1'
  obtain ⟨a, r, hi, h1, h2⟩ := x1.head ht (by rw [hk']; decide)
  have hnow : (q.take 1 [wBurst]).1.now = (p.take 1 [wBurst]).1.now := by unfold PS.now; rw [h1, h2]; rfl
  have x2 : ExtR t nl S { (p.take 1 [wBurst]).1 with bt := (p.take 1 [wBurst]).1.now } { (q.take 1 [wBurst]).1 with bt := (q.take 1 [wBurst]).1.now } := by
    obtain ⟨g0, r', g1, g2, g3⟩ := x1
    refine ⟨?_, r', g1, g2, g3⟩
    rw [hnow]
    conv => lhs; rw [g0]
  obtain ⟨x3, y3⟩ := take_ext ht x2 2 (by decide) [] he3
  rw [ef p, ef q]
  refine fin_ext ht hn ?_ he
  obtain ⟨g0, r', g1, g2, g3⟩ := x3
  refine ⟨?_, r', g1, g2, g3⟩
  rw [y3]
  conv => lhs; rw [g0]
theorem take_bad (p : PS) (k : Int) (tx : List ByteArray) (h : p.e ≠ 0) : (p.take k tx).1 = p := by
  unfold PS.take PS.fits PS.fail
  have : (p.e == 0) = false := beq_eq_false_iff_ne.2 h
  rw [this]
  simp [h]
theorem nums_bad (n : Nat) (p : PS) (h : p.e ≠ 0) : (PS.nums n p).1 = p := by
  induction n with
  | zero => rfl
  | succ n ih =>
    show ((PS.nums n p).1.take 2 []).1 = p
    rw [ih]; exact take_bad p 2 [] h
theorem fin_bad (p : PS) (h : p.e ≠ 0) : p.fin = p := by
  unfold PS.fin
  rw [if_neg (fun hh => h hh.1)]
  exact take_bad p 3 [] h
/-- One at a word that isn't "task". -/
theorem one_bad (q : PS) (he : q.e = 0) (hw : q.fits 1 [wTask] = false) : q.one.e = 5 ∧ q.one.ln = q.now.f3 ∧ q.one.cl = q.now.f4 := by
  obtain ⟨q1, hq1⟩ : ∃ q1 : PS, { q with hs := q.hs ++ [q.now] } = q1 := ⟨_, rfl⟩
  have hf : q1.fits 1 [wTask] = false := by rw [← hq1]; exact hw
  have hn1 : q1.now = q.now := by rw [← hq1]; rfl
  have he1 : q1.e = 0 := by rw [← hq1]; exact he
  have h2 : (q1.take 1 [wTask]).1 = { q1 with e := 5, ln := q1.now.f3, cl := q1.now.f4 } := by
    unfold PS.take
    rw [if_neg (by rw [hf]; decide)]
    unfold PS.fail
    rw [if_pos he1]
  obtain ⟨q2, hq2⟩ : ∃ q2, (q1.take 1 [wTask]).1 = q2 := ⟨_, rfl⟩
  have hb : q2.e ≠ 0 := by rw [← hq2, h2]; show (5 : Int) ≠ 0; decide
  have g : q.one.e = q2.e ∧ q.one.ln = q2.ln ∧ q.one.cl = q2.cl := by
    unfold PS.one
    simp only [hq1, hq2, take_bad q2 1 [] hb, nums_bad 3 q2 hb, take_bad q2 1 [wRetry, wBlock, wBackup] hb, nums_bad 6 q2 hb, fin_bad q2 hb]
    exact ⟨trivial, trivial, trivial⟩
  rw [g.1, g.2.1, g.2.2, ← hq2, h2]
  exact ⟨rfl, by rw [hn1], by rw [hn1]⟩
theorem go_bad (n : Nat) (q : PS) (h : q.e ≠ 0) : PS.go n q = q := go_done n q (fun hh => h hh.1)
theorem go_twice (x : TOK) (S' : List TOK) (hS : S.dropWhile nlk = x :: S') (hx : x.f0 ≠ 4) (hb : (x.f1.toList == wTask.toList) = false) (ht : t.f0 = 4) (hn : nl.f0 = 3) : ∀ (n m : Nat) (p q : PS), BlankR t nl S p q → p.e = 0 → p.l.length ≤ n → q.l.length ≤ m → (PS.go n p).e = 0 → (PS.go m q).e = 5 ∧ (PS.go m q).ln = x.f3 ∧ (PS.go m q).cl = x.f4 := by
  intro n
  induction n with
  | zero =>
    intro m p q hB he hl hm hg
    obtain ⟨-, ⟨a, r, -, h1, -⟩ | ⟨h1, -⟩⟩ := hB <;> rw [h1] at hl <;> simp at hl
  | succ n ih =>
    intro m p q hB he hl hm hg
    by_cases h4 : p.now.f0 = 4
    · obtain ⟨h0, ⟨a, r, hi, h1, h2⟩ | ⟨h1, h2⟩⟩ := hB
      · exact absurd (by rw [← h4]; unfold PS.now; rw [h1]; rfl) (hi a List.mem_cons_self)
      · rw [hS] at h2
        have hqe : q.e = 0 := by rw [h0]; exact he
        have hqn : q.now = x := by unfold PS.now; rw [h2]; rfl
        have hff : q.fits 1 [wTask] = false := by
          unfold PS.fits
          rw [hqn]
          have : (wTask.toList == x.f1.toList) = false := by rw [beq_eq_false_iff_ne] at hb ⊢; exact fun e => hb e.symm
          simp [this]
        have h3 := one_bad q hqe hff
        cases m with
        | zero => rw [h2] at hm; simp at hm
        | succ m =>
          have hbad : q.one.blank.e ≠ 0 := by show q.one.e ≠ 0; rw [h3.1]; decide
          rw [PS.go, if_pos ⟨hqe, by rw [hqn]; exact hx⟩, go_bad m _ hbad]
          show q.one.e = 5 ∧ q.one.ln = x.f3 ∧ q.one.cl = x.f4
          rw [h3.1, h3.2.1, h3.2.2, hqn]
          exact ⟨rfl, rfl, rfl⟩
    · obtain ⟨hX, hnow⟩ := hB.ext h4 ht
      have hqe : q.e = 0 := by rw [hB.1]; exact he
      rw [PS.go, if_pos ⟨he, h4⟩] at hg
      have hoe : p.one.e = 0 := by
        rcases Decidable.em (p.one.e = 0) with h | h
        · exact h
        · exact absurd hg (by rw [go_bad n p.one.blank h]; exact h)
      have hN := blank_ext ht hn (one_ext ht hn hX hnow hoe)
      have hqo : q.one.e = 0 := by
        have := hN.1
        have h1 : q.one.blank.e = p.one.blank.e := by rw [this]
        exact h1.trans hoe
      have hpl : p.l ≠ [] := by obtain ⟨_, r, _, h1, _⟩ := hX; rw [h1]; simp
      have hql : q.l ≠ [] := by obtain ⟨_, r, _, _, h1⟩ := hX; rw [h1]; simp
      have l1 := one_len p hpl hoe
      have l2 := one_len q hql hqo
      have l3 := blank_len p.one
      have l4 := blank_len q.one
      cases m with
      | zero => have := List.length_pos_iff.2 hql; omega
      | succ m =>
        rw [PS.go, if_pos ⟨hqe, by rw [hnow]; exact h4⟩]
        exact ih m p.one.blank q.one.blank hN hoe (by omega) (by omega) hg
theorem first_word (p : PS) (he : p.first.e = 0) : p.now.f0 = 1 ∧ p.now.f1.toList = wBurst.toList ∧ p.e = 0 := by
  have he1 : (p.take 1 [wBurst]).1.e = 0 := by
    rcases Decidable.em ((p.take 1 [wBurst]).1.e = 0) with hx | hx
    · exact hx
    · refine absurd he ?_
      unfold PS.first
      exact fin_e _ (take_e _ 2 [] hx)
  obtain ⟨hf, h1, h2⟩ := take_fit _ _ _ he1
  refine ⟨h2, ?_, h1⟩
  unfold PS.fits at hf
  simp at hf
  exact hf.2.symm
/-- Tokens that are read as a set, behind themselves. -/
theorem parse_twice (ys : List TOK) (ht : t.f0 = 4) (hn : nl.f0 = 3) (hi : Inner ys) (L : Int) (sh : TOK → TOK) (hsh : ∀ a, (sh a).f0 = a.f0 ∧ (sh a).f1 = a.f1 ∧ (sh a).f3 = a.f3 + L ∧ (sh a).f4 = a.f4) (h : (parseToks (ys ++ [t])).2.2.1 = 0) :
    ∃ a ∈ ys ++ [t], parseToks (ys ++ nl :: (ys ++ [t]).map sh) = (0, [], 5, a.f3 + L, a.f4) := by
  obtain ⟨T, hT⟩ : ∃ T, ys ++ [t] = T := ⟨_, rfl⟩
  rw [hT] at h ⊢
  obtain ⟨T2, hT2⟩ : ∃ T2, ys ++ nl :: T.map sh = T2 := ⟨_, rfl⟩
  rw [hT2]
  have hE : ExtR t nl (T.map sh) (PS.init T) (PS.init T2) := ⟨rfl, ys, hi, hT.symm, hT2.symm⟩
  have hB := blank_ext ht hn (Or.inl hE)
  have hge : (PS.go T.length (PS.init T).blank.first.blank).e = 0 := by
    rcases Decidable.em ((PS.go T.length (PS.init T).blank.first.blank).e = 0) with hx | hx
    · exact hx
    · refine absurd h ?_
      unfold parseToks
      simp only [if_neg hx]
      exact hx
  have hfe : (PS.init T).blank.first.e = 0 := by
    rcases Decidable.em ((PS.init T).blank.first.e = 0) with hx | hx
    · exact hx
    · exact absurd hge (by rw [go_bad _ (PS.init T).blank.first.blank hx]; exact hx)
  obtain ⟨w1, w2, w3⟩ := first_word _ hfe
  obtain ⟨hX, hnow⟩ := hB.ext (by rw [w1]; decide) ht
  have hF := first_ext ht hn hX hfe
  have hFB := blank_ext ht hn hF
  obtain ⟨a, r, -, h1, -⟩ := hX.head ht (by rw [w1]; decide)
  have hTd : T.dropWhile nlk = a :: (r ++ [t]) := h1
  have hna : (PS.init T).blank.now = a := by unfold PS.now; rw [h1]; rfl
  rw [hna] at w1 w2
  have hmap : ∀ l : List TOK, (l.map sh).dropWhile nlk = (l.dropWhile nlk).map sh := by
    intro l
    induction l with
    | nil => rfl
    | cons b l ih =>
      rw [List.map_cons, List.dropWhile_cons, List.dropWhile_cons]
      have : nlk (sh b) = nlk b := by unfold nlk; rw [(hsh b).1]
      rw [this]
      split
      · exact ih
      · rfl
  have hS : (T.map sh).dropWhile nlk = sh a :: (r ++ [t]).map sh := by rw [hmap, hTd]; rfl
  have hl1 : (PS.init T).blank.first.blank.l.length ≤ T.length := Nat.le_trans (blank_len _) (Nat.le_trans (first_len _) (blank_len _))
  have hl2 : (PS.init T2).blank.first.blank.l.length ≤ T2.length := Nat.le_trans (blank_len _) (Nat.le_trans (first_len _) (blank_len _))
  have hG := go_twice (sh a) _ hS (by rw [(hsh a).1, w1]; decide) (by rw [(hsh a).2.1, w2, Lib.toList_data, Lib.toList_data]; decide) ht hn T.length T2.length _ _ hFB hfe hl1 hl2 hge
  refine ⟨a, ?_, ?_⟩
  · have : a ∈ T.dropWhile nlk := by rw [hTd]; exact List.mem_cons_self
    exact (List.dropWhile_suffix nlk).subset this
  · unfold parseToks
    simp only [hG.1, hG.2.1, hG.2.2, (hsh a).2.2.1, (hsh a).2.2.2]
    rfl
end
end Go.Proofs.YtddbkcfdfgehkaaDoor.Q

-- Written for this claim by the session's own driver (wip/qprint.py) over the kit's printer, out of the translation. Not trusted: Lean checks it.
namespace Go.Proofs.YtddbkcfdfgehkaaDoor.Q
open Go.RowKit Go.Proofs.YtddbkcfdfgehkaaDoorW.PrintWords Go.Proofs.YtddbkcfdfgehkaaDoorW.PrintLast Go.Proofs.YtddbkcfdfgehkaaDoorW.PrintMore
attribute [local go_sem] max2_int min2_int max_two min_two max_three min_three max_four min_four   -- for this text's walks alone
set_option linter.unusedVariables false
set_option linter.unusedSimpArgs false

/-! ### pendulumref06_Mode: function 15 -/
def pendulumref06_Mode.f (a0 : ByteArray) : Option (Int) := if a0.toList = ([114, 101, 116, 114, 121] : List UInt8) then (some 1) else (if a0.toList = ([98, 108, 111, 99, 107] : List UInt8) then (some 2) else (if a0.toList = ([98, 97, 99, 107, 117, 112] : List UInt8) then (some 3) else (some 0)))
set_option maxHeartbeats 8000000 in
set_option maxRecDepth 100000 in
theorem pendulumref06_Mode.calls (a0 : ByteArray) (r : Int) (w : World) (h : pendulumref06_Mode.f a0 = some r) :
    Calls Tryd.prog 15 #[.string a0] w fun e w' => e = .returned (.int .i64 r) ∧ Drawn0 w w' := by
  have H : (if a0.toList = ([114, 101, 116, 114, 121] : List UInt8) then (some 1) else (if a0.toList = ([98, 108, 111, 99, 107] : List UInt8) then (some 2) else (if a0.toList = ([98, 97, 99, 107, 117, 112] : List UInt8) then (some 3) else (some 0)))) = some r := h
  clear h
  by_cases c2 : a0.toList = ([114, 101, 116, 114, 121] : List UInt8)
  · rw [if_pos c2] at H
    have c2b0 : (a0.toList == ([114, 101, 116, 114, 121] : List UInt8)) = true := beq_iff_eq.mpr c2
    have c2b1 : (a0.toList != ([114, 101, 116, 114, 121] : List UInt8)) = false := bne_eq_false_iff_eq.mpr c2
    clear c2
    obtain rfl := Option.some.inj H
    go_enter Tryd.func15, Tryd.ntmps15
    go_wp2
    go_ret
    exact ⟨by first | rfl | (simp; done) | (simp [*]; done), by repeat (first | exact Drawn0.refl _ | apply Drawn0.step)⟩
  · rw [if_neg c2] at H
    have c2b0 : (a0.toList == ([114, 101, 116, 114, 121] : List UInt8)) = false := beq_eq_false_iff_ne.mpr c2
    have c2b1 : (a0.toList != ([114, 101, 116, 114, 121] : List UInt8)) = true := bne_iff_ne.mpr c2
    by_cases c3 : a0.toList = ([98, 108, 111, 99, 107] : List UInt8)
    · rw [if_pos c3] at H
      have c3b0 : (a0.toList == ([98, 108, 111, 99, 107] : List UInt8)) = true := beq_iff_eq.mpr c3
      have c3b1 : (a0.toList != ([98, 108, 111, 99, 107] : List UInt8)) = false := bne_eq_false_iff_eq.mpr c3
      clear c3
      obtain rfl := Option.some.inj H
      go_enter Tryd.func15, Tryd.ntmps15
      go_wp2
      go_ret
      exact ⟨by first | rfl | (simp; done) | (simp [*]; done), by repeat (first | exact Drawn0.refl _ | apply Drawn0.step)⟩
    · rw [if_neg c3] at H
      have c3b0 : (a0.toList == ([98, 108, 111, 99, 107] : List UInt8)) = false := beq_eq_false_iff_ne.mpr c3
      have c3b1 : (a0.toList != ([98, 108, 111, 99, 107] : List UInt8)) = true := bne_iff_ne.mpr c3
      by_cases c4 : a0.toList = ([98, 97, 99, 107, 117, 112] : List UInt8)
      · rw [if_pos c4] at H
        have c4b0 : (a0.toList == ([98, 97, 99, 107, 117, 112] : List UInt8)) = true := beq_iff_eq.mpr c4
        have c4b1 : (a0.toList != ([98, 97, 99, 107, 117, 112] : List UInt8)) = false := bne_eq_false_iff_eq.mpr c4
        clear c4
        obtain rfl := Option.some.inj H
        go_enter Tryd.func15, Tryd.ntmps15
        go_wp2
        go_ret
        exact ⟨by first | rfl | (simp; done) | (simp [*]; done), by repeat (first | exact Drawn0.refl _ | apply Drawn0.step)⟩
      · rw [if_neg c4] at H
        have c4b0 : (a0.toList == ([98, 97, 99, 107, 117, 112] : List UInt8)) = false := beq_eq_false_iff_ne.mpr c4
        have c4b1 : (a0.toList != ([98, 97, 99, 107, 117, 112] : List UInt8)) = true := bne_iff_ne.mpr c4
        obtain rfl := Option.some.inj H
        go_enter Tryd.func15, Tryd.ntmps15
        go_wp2
        go_ret
        exact ⟨by first | rfl | (simp; done) | (simp [*]; done), by repeat (first | exact Drawn0.refl _ | apply Drawn0.step)⟩

/-! ### pendulumref04_kind: function 35 -/
mutual
def pendulumref04_kind.j0 : Nat → Int → Bool → Option (Int)
  | 0, _, _ => none
  | k + 1, x0, x8 => if x8 = true then (some 1) else (if x0 ≥ 48 then (pendulumref04_kind.j1 k x0 (decide (x0 ≤ 57))) else (pendulumref04_kind.j1 k x0 false))
def pendulumref04_kind.j1 : Nat → Int → Bool → Option (Int)
  | 0, _, _ => none
  | k + 1, x0, x14 => if x14 = true then (some 2) else (if x0 = 95 then (some 3) else (if x0 = 32 then (pendulumref04_kind.j2 k x0 true) else (pendulumref04_kind.j2 k x0 (x0 == 9))))
def pendulumref04_kind.j2 : Nat → Int → Bool → Option (Int)
  | 0, _, _ => none
  | k + 1, x0, x22 => if x22 = true then (some 4) else (if x0 = 10 then (some 5) else (if x0 = 35 then (some 6) else (some 0)))
end
def pendulumref04_kind.f (k : Nat) (a0 : Int) : Option (Int) := if a0 ≥ 97 then (pendulumref04_kind.j0 k a0 (decide (a0 ≤ 122))) else (pendulumref04_kind.j0 k a0 false)
theorem pendulumref04_kind.mono_l : ∀ k, (∀ y0 y1, LeO (pendulumref04_kind.j0 k y0 y1) (pendulumref04_kind.j0 (k + 1) y0 y1)) ∧ (∀ y0 y1, LeO (pendulumref04_kind.j1 k y0 y1) (pendulumref04_kind.j1 (k + 1) y0 y1)) ∧ (∀ y0 y1, LeO (pendulumref04_kind.j2 k y0 y1) (pendulumref04_kind.j2 (k + 1) y0 y1))
  | 0 => ⟨fun _ _ r h => by simp [pendulumref04_kind.j0] at h, fun _ _ r h => by simp [pendulumref04_kind.j1] at h, fun _ _ r h => by simp [pendulumref04_kind.j2] at h⟩
  | k + 1 => by
    obtain ⟨ih0, ih1, ih2⟩ := pendulumref04_kind.mono_l k
    refine ⟨?_, ?_, ?_⟩
    · intro y0 y1
      unfold pendulumref04_kind.j0
      repeat' first
      | (with_reducible exact ih0 _ _)
      | (with_reducible exact ih1 _ _)
      | (with_reducible exact ih2 _ _)
      | (with_reducible exact LeO.refl _)
      | (with_reducible exact LeO.none _)
      | (with_reducible refine LeO.ite ?_ ?_)
      | (with_reducible refine LeO.bind ?_ (fun _ => ?_))
      | exact ih0 _ _
      | exact ih1 _ _
      | exact ih2 _ _
      | exact LeO.none _
      | refine LeO.ite ?_ ?_
      | refine LeO.bind ?_ (fun _ => ?_)
    · intro y0 y1
      unfold pendulumref04_kind.j1
      repeat' first
      | (with_reducible exact ih0 _ _)
      | (with_reducible exact ih1 _ _)
      | (with_reducible exact ih2 _ _)
      | (with_reducible exact LeO.refl _)
      | (with_reducible exact LeO.none _)
      | (with_reducible refine LeO.ite ?_ ?_)
      | (with_reducible refine LeO.bind ?_ (fun _ => ?_))
      | exact ih0 _ _
      | exact ih1 _ _
      | exact ih2 _ _
      | exact LeO.none _
      | refine LeO.ite ?_ ?_
      | refine LeO.bind ?_ (fun _ => ?_)
    · intro y0 y1
      unfold pendulumref04_kind.j2
      repeat' first
      | (with_reducible exact ih0 _ _)
      | (with_reducible exact ih1 _ _)
      | (with_reducible exact ih2 _ _)
      | (with_reducible exact LeO.refl _)
      | (with_reducible exact LeO.none _)
      | (with_reducible refine LeO.ite ?_ ?_)
      | (with_reducible refine LeO.bind ?_ (fun _ => ?_))
      | exact ih0 _ _
      | exact ih1 _ _
      | exact ih2 _ _
      | exact LeO.none _
      | refine LeO.ite ?_ ?_
      | refine LeO.bind ?_ (fun _ => ?_)
theorem pendulumref04_kind.mono : ∀ a0 k, LeO (pendulumref04_kind.f k a0) (pendulumref04_kind.f (k + 1) a0) := by
  intro a0 k
  obtain ⟨ih0, ih1, ih2⟩ := pendulumref04_kind.mono_l k
  unfold pendulumref04_kind.f
  repeat' first
      | (with_reducible exact ih0 _ _)
      | (with_reducible exact ih1 _ _)
      | (with_reducible exact ih2 _ _)
      | (with_reducible exact LeO.refl _)
      | (with_reducible exact LeO.none _)
      | (with_reducible refine LeO.ite ?_ ?_)
      | (with_reducible refine LeO.bind ?_ (fun _ => ?_))
      | exact ih0 _ _
      | exact ih1 _ _
      | exact ih2 _ _
      | exact LeO.none _
      | refine LeO.ite ?_ ?_
      | refine LeO.bind ?_ (fun _ => ?_)
set_option maxHeartbeats 8000000 in
set_option maxRecDepth 100000 in
theorem pendulumref04_kind.calls (k : Nat) (a0 : Int) (r : Int) (w : World) (h : pendulumref04_kind.f k a0 = some r) :
    Calls Tryd.prog 35 #[.int .u8 a0] w fun e w' => e = .returned (.int .i64 r) ∧ Drawn0 w w' := by
  have H : (if a0 ≥ 97 then (pendulumref04_kind.j0 k a0 (decide (a0 ≤ 122))) else (pendulumref04_kind.j0 k a0 false)) = some r := h
  clear h
  have HC2 := Aside0.mk H
  clear H
  go_enter Tryd.func35, Tryd.ntmps35
  go_upto_region 1 with (fail)
  go_cut [8] (fun v8 wc => ∃ (kq : Nat) (x8_1 : Bool), v8 = .bool x8_1 ∧ Aside0 (pendulumref04_kind.j0 kq a0 x8_1 = some r) ∧ Aside0 (kq ≤ k) ∧ Drawn0 w wc)
  case first =>
    have H := HC2.out
    clear HC2
    by_cases c3 : a0 ≥ 97
    · rw [if_pos c3] at H
      have c3b0 : decide (97 ≤ a0) = true := decide_eq_true c3
      clear c3
      (first | rw [c3b0] | (simp only [i64_w, i32_w]; rw [c3b0]) | skip)
      have H' := Aside0.mk H
      clear H
      go_wp2
      go_meet
      case rel => exact ⟨_, (decide (a0 ≤ 122)), (by first | rfl | (simp; done) | (simp [*]; done)), H', ⟨by first | omega | exact Nat.le_refl _⟩, by repeat (first | exact Drawn0.refl _ | apply Drawn0.step)⟩
    · rw [if_neg c3] at H
      have c3b0 : decide (97 ≤ a0) = false := decide_eq_false c3
      clear c3
      (first | rw [c3b0] | (simp only [i64_w, i32_w]; rw [c3b0]) | skip)
      have H' := Aside0.mk H
      clear H
      go_wp2
      go_meet
      case rel => exact ⟨_, (false), (by first | rfl | (simp; done) | (simp [*]; done)), H', ⟨by first | omega | exact Nat.le_refl _⟩, by repeat (first | exact Drawn0.refl _ | apply Drawn0.step)⟩
  case rest =>
    clear HC2
    try clear p2
    try clear c3
    try clear c3b0
    obtain ⟨kq, x8_1, rfl, HA, HJ1, ⟨mc1, rfl⟩⟩ := hcut
    cases kq with
    | zero => exact absurd HA.out (by simp [pendulumref04_kind.j0])
    | succ kj1 =>
      have H := HA.out
      clear HA
      simp only [pendulumref04_kind.j0] at H
      by_cases c4 : x8_1 = true
      · subst c4
        have H1 : (some 1) = some r := by rw [if_pos rfl] at H; exact H
        clear H
        have H := H1
        clear H1
        obtain rfl := Option.some.inj H
        go_wp2
        go_ret
        exact ⟨by first | rfl | (simp; done) | (simp [*]; done), by repeat (first | exact Drawn0.refl _ | apply Drawn0.step)⟩
      · replace c4 := Bool.eq_false_iff.mpr c4
        subst c4
        have H1 : (if a0 ≥ 48 then (pendulumref04_kind.j1 kj1 a0 (decide (a0 ≤ 57))) else (pendulumref04_kind.j1 kj1 a0 false)) = some r := by rw [if_neg (show ¬ (false = true) by decide)] at H; exact H
        clear H
        have H := H1
        clear H1
        have HC5 := Aside0.mk H
        clear H
        go_upto_region 3 with (fail)
        go_cut [14] (fun v14 wc => ∃ (kq : Nat) (x14_4 : Bool), v14 = .bool x14_4 ∧ Aside0 (pendulumref04_kind.j1 kq a0 x14_4 = some r) ∧ Aside0 (kq ≤ kj1) ∧ Drawn0 w wc)
        case first =>
          have H := HC5.out
          clear HC5
          by_cases c6 : a0 ≥ 48
          · rw [if_pos c6] at H
            have c6b0 : decide (48 ≤ a0) = true := decide_eq_true c6
            clear c6
            (first | rw [c6b0] | (simp only [i64_w, i32_w]; rw [c6b0]) | skip)
            have H' := Aside0.mk H
            clear H
            go_wp2
            go_meet
            case rel => exact ⟨_, (decide (a0 ≤ 57)), (by first | rfl | (simp; done) | (simp [*]; done)), H', ⟨by have := HJ1.out; first | omega | exact Nat.le_refl _⟩, by repeat (first | exact Drawn0.refl _ | apply Drawn0.step)⟩
          · rw [if_neg c6] at H
            have c6b0 : decide (48 ≤ a0) = false := decide_eq_false c6
            clear c6
            (first | rw [c6b0] | (simp only [i64_w, i32_w]; rw [c6b0]) | skip)
            have H' := Aside0.mk H
            clear H
            go_wp2
            go_meet
            case rel => exact ⟨_, (false), (by first | rfl | (simp; done) | (simp [*]; done)), H', ⟨by have := HJ1.out; first | omega | exact Nat.le_refl _⟩, by repeat (first | exact Drawn0.refl _ | apply Drawn0.step)⟩
        case rest =>
          clear HC5
          try clear c1
          try clear p2
          try clear c3
          try clear c3b0
          try clear c4
          try clear c6
          try clear c6b0
          try clear p2
          obtain ⟨kq, x14_4, rfl, HA, HJ4, ⟨mc4, rfl⟩⟩ := hcut
          cases kq with
          | zero => exact absurd HA.out (by simp [pendulumref04_kind.j1])
          | succ kj4 =>
            have H := HA.out
            clear HA
            simp only [pendulumref04_kind.j1] at H
            by_cases c7 : x14_4 = true
            · subst c7
              have H1 : (some 2) = some r := by rw [if_pos rfl] at H; exact H
              clear H
              have H := H1
              clear H1
              obtain rfl := Option.some.inj H
              go_wp2
              go_ret
              exact ⟨by first | rfl | (simp; done) | (simp [*]; done), by repeat (first | exact Drawn0.refl _ | apply Drawn0.step)⟩
            · replace c7 := Bool.eq_false_iff.mpr c7
              subst c7
              have H1 : (if a0 = 95 then (some 3) else (if a0 = 32 then (pendulumref04_kind.j2 kj4 a0 true) else (pendulumref04_kind.j2 kj4 a0 (a0 == 9)))) = some r := by rw [if_neg (show ¬ (false = true) by decide)] at H; exact H
              clear H
              have H := H1
              clear H1
              by_cases c8 : a0 = 95
              · rw [if_pos c8] at H
                have c8b0 : (a0 == 95) = true := beq_iff_eq.mpr c8
                have c8b1 : (a0 != 95) = false := bne_eq_false_iff_eq.mpr c8
                clear c8
                obtain rfl := Option.some.inj H
                go_wp2
                go_ret
                exact ⟨by first | rfl | (simp; done) | (simp [*]; done), by repeat (first | exact Drawn0.refl _ | apply Drawn0.step)⟩
              · rw [if_neg c8] at H
                have c8b0 : (a0 == 95) = false := beq_eq_false_iff_ne.mpr c8
                have c8b1 : (a0 != 95) = true := bne_iff_ne.mpr c8
                have HC9 := Aside0.mk H
                clear H
                go_upto_region 7 with (fail)
                go_cut [22] (fun v22 wc => ∃ (kq : Nat) (x22_8 : Bool), v22 = .bool x22_8 ∧ Aside0 (pendulumref04_kind.j2 kq a0 x22_8 = some r) ∧ Aside0 (kq ≤ kj4) ∧ Drawn0 w wc)
                case first =>
                  have H := HC9.out
                  clear HC9
                  by_cases c10 : a0 = 32
                  · rw [if_pos c10] at H
                    have c10b0 : (a0 == 32) = true := beq_iff_eq.mpr c10
                    have c10b1 : (a0 != 32) = false := bne_eq_false_iff_eq.mpr c10
                    clear c10
                    (first | rw [c10b0] | (simp only [i64_w, i32_w]; rw [c10b0]) | skip)
                    have H' := Aside0.mk H
                    clear H
                    go_wp2
                    go_meet
                    case rel => exact ⟨_, (true), (by first | rfl | (simp; done) | (simp [*]; done)), H', ⟨by have := HJ1.out; have := HJ4.out; first | omega | exact Nat.le_refl _⟩, by repeat (first | exact Drawn0.refl _ | apply Drawn0.step)⟩
                  · rw [if_neg c10] at H
                    have c10b0 : (a0 == 32) = false := beq_eq_false_iff_ne.mpr c10
                    have c10b1 : (a0 != 32) = true := bne_iff_ne.mpr c10
                    (first | rw [c10b0] | (simp only [i64_w, i32_w]; rw [c10b0]) | skip)
                    have H' := Aside0.mk H
                    clear H
                    go_wp2
                    go_meet
                    case rel => exact ⟨_, ((a0 == 9)), (by first | rfl | (simp; done) | (simp [*]; done)), H', ⟨by have := HJ1.out; have := HJ4.out; first | omega | exact Nat.le_refl _⟩, by repeat (first | exact Drawn0.refl _ | apply Drawn0.step)⟩
                case rest =>
                  clear HC9
                  try clear c1
                  try clear p2
                  try clear c3
                  try clear c3b0
                  try clear c4
                  try clear c6
                  try clear c6b0
                  try clear c7
                  try clear c8
                  try clear c8b0
                  try clear c8b1
                  try clear c10
                  try clear c10b0
                  try clear c10b1
                  try clear p2
                  obtain ⟨kq, x22_8, rfl, HA, HJ8, ⟨mc8, rfl⟩⟩ := hcut
                  cases kq with
                  | zero => exact absurd HA.out (by simp [pendulumref04_kind.j2])
                  | succ kj8 =>
                    have H := HA.out
                    clear HA
                    simp only [pendulumref04_kind.j2] at H
                    by_cases c11 : x22_8 = true
                    · subst c11
                      have H1 : (some 4) = some r := by rw [if_pos rfl] at H; exact H
                      clear H
                      have H := H1
                      clear H1
                      obtain rfl := Option.some.inj H
                      go_wp2
                      go_ret
                      exact ⟨by first | rfl | (simp; done) | (simp [*]; done), by repeat (first | exact Drawn0.refl _ | apply Drawn0.step)⟩
                    · replace c11 := Bool.eq_false_iff.mpr c11
                      subst c11
                      have H1 : (if a0 = 10 then (some 5) else (if a0 = 35 then (some 6) else (some 0))) = some r := by rw [if_neg (show ¬ (false = true) by decide)] at H; exact H
                      clear H
                      have H := H1
                      clear H1
                      by_cases c12 : a0 = 10
                      · rw [if_pos c12] at H
                        have c12b0 : (a0 == 10) = true := beq_iff_eq.mpr c12
                        have c12b1 : (a0 != 10) = false := bne_eq_false_iff_eq.mpr c12
                        clear c12
                        obtain rfl := Option.some.inj H
                        go_wp2
                        go_ret
                        exact ⟨by first | rfl | (simp; done) | (simp [*]; done), by repeat (first | exact Drawn0.refl _ | apply Drawn0.step)⟩
                      · rw [if_neg c12] at H
                        have c12b0 : (a0 == 10) = false := beq_eq_false_iff_ne.mpr c12
                        have c12b1 : (a0 != 10) = true := bne_iff_ne.mpr c12
                        by_cases c13 : a0 = 35
                        · rw [if_pos c13] at H
                          have c13b0 : (a0 == 35) = true := beq_iff_eq.mpr c13
                          have c13b1 : (a0 != 35) = false := bne_eq_false_iff_eq.mpr c13
                          clear c13
                          obtain rfl := Option.some.inj H
                          go_wp2
                          go_ret
                          exact ⟨by first | rfl | (simp; done) | (simp [*]; done), by repeat (first | exact Drawn0.refl _ | apply Drawn0.step)⟩
                        · rw [if_neg c13] at H
                          have c13b0 : (a0 == 35) = false := beq_eq_false_iff_ne.mpr c13
                          have c13b1 : (a0 != 35) = true := bne_iff_ne.mpr c13
                          obtain rfl := Option.some.inj H
                          go_wp2
                          go_ret
                          exact ⟨by first | rfl | (simp; done) | (simp [*]; done), by repeat (first | exact Drawn0.refl _ | apply Drawn0.step)⟩

/-! ### pendulumref04_Value: function 36 -/
def pendulumref04_Value.l0 : Nat → ByteArray → Int → Int → Option (Int × Bool)
  | 0, _, _, _ => none
  | k + 1, x0, x4, x5 => if x5 < (x0.size : Int) then (if 0 ≤ x5 then (if (wrap64 ((wrap64 ((wrap64 (10 * x4)) + (wrap64 (bt x0 x5)))) - 48)) > 1099511627776 then (some (0, false)) else (pendulumref04_Value.l0 k x0 (wrap64 ((wrap64 ((wrap64 (10 * x4)) + (wrap64 (bt x0 x5)))) - 48)) (wrap64 (x5 + 1)))) else (none)) else (some (x4, true))
def pendulumref04_Value.f (k : Nat) (a0 : ByteArray) : Option (Int × Bool) := pendulumref04_Value.l0 k a0 0 0
theorem pendulumref04_Value.mono_l : ∀ k, (∀ y0 y1 y2, LeO (pendulumref04_Value.l0 k y0 y1 y2) (pendulumref04_Value.l0 (k + 1) y0 y1 y2))
  | 0 => fun _ _ _ r h => by simp [pendulumref04_Value.l0] at h
  | k + 1 => by
    have ih0 := pendulumref04_Value.mono_l k
    · intro y0 y1 y2
      unfold pendulumref04_Value.l0
      repeat' first
      | (with_reducible exact ih0 _ _ _)
      | (with_reducible exact LeO.refl _)
      | (with_reducible exact LeO.none _)
      | (with_reducible refine LeO.ite ?_ ?_)
      | (with_reducible refine LeO.bind ?_ (fun _ => ?_))
      | exact ih0 _ _ _
      | exact LeO.none _
      | refine LeO.ite ?_ ?_
      | refine LeO.bind ?_ (fun _ => ?_)
theorem pendulumref04_Value.mono : ∀ a0 k, LeO (pendulumref04_Value.f k a0) (pendulumref04_Value.f (k + 1) a0) := by
  intro a0 k
  have ih0 := pendulumref04_Value.mono_l k
  unfold pendulumref04_Value.f
  repeat' first
      | (with_reducible exact ih0 _ _ _)
      | (with_reducible exact LeO.refl _)
      | (with_reducible exact LeO.none _)
      | (with_reducible refine LeO.ite ?_ ?_)
      | (with_reducible refine LeO.bind ?_ (fun _ => ?_))
      | exact ih0 _ _ _
      | exact LeO.none _
      | refine LeO.ite ?_ ?_
      | refine LeO.bind ?_ (fun _ => ?_)
set_option maxHeartbeats 8000000 in
set_option maxRecDepth 100000 in
theorem pendulumref04_Value.calls (k : Nat) (a0 : ByteArray) (r1 : Int) (r2 : Bool) (w : World) (h : pendulumref04_Value.f k a0 = some (r1, r2)) :
    Calls Tryd.prog 36 #[.string a0] w fun e w' => e = .returned (.tuple #[.int .i64 r1, .bool r2]) ∧ Drawn0 w w' := by
  have H : (pendulumref04_Value.l0 k a0 0 0) = some (r1, r2) := h
  clear h
  have H' := Aside0.mk H
  clear H
  go_enter Tryd.func36, Tryd.ntmps36
  go_wp2
  go_loopg [4, 5] k (fun kq v4 v5 w' => ∃ (x4_1 : Int) (x5_1 : Int), v4 = .int .i64 x4_1 ∧ v5 = .int .i64 x5_1 ∧ Aside0 (pendulumref04_Value.l0 kq a0 x4_1 x5_1 = some (r1, r2)) ∧ Aside0 (kq ≤ k) ∧ Drawn0 w w')
  case atStart => exact ⟨(0), (0), (by first | rfl | (simp; done) | (simp [*]; done)), (by first | rfl | (simp; done) | (simp [*]; done)), H', ⟨Nat.le_refl _⟩, by repeat (first | exact Drawn0.refl _ | apply Drawn0.step)⟩
  case round =>
    clear H'
    obtain ⟨x4_1, x5_1, rfl, rfl, HA, HK1, ⟨m1, rfl⟩⟩ := hrel
    cases gk with
    | zero => exact absurd HA.out (by simp [pendulumref04_Value.l0])
    | succ k1 =>
      have H := HA.out
      clear HA
      simp only [pendulumref04_Value.l0] at H
      by_cases c2 : x5_1 < (a0.size : Int)
      · rw [if_pos c2] at H
        have c2b0 : decide (x5_1 < (a0.size : Int)) = true := decide_eq_true c2
        clear c2
        by_cases c3 : 0 ≤ x5_1
        · rw [if_pos c3] at H
          have c3b0 : decide (0 ≤ x5_1) = true := decide_eq_true c3
          clear c3
          by_cases c5 : (wrap64 ((wrap64 ((wrap64 (10 * x4_1)) + (wrap64 (bt a0 x5_1)))) - 48)) > 1099511627776
          · rw [if_pos c5] at H
            have c5b0 : decide (1099511627776 < (wrap64 ((wrap64 ((wrap64 (10 * x4_1)) + (wrap64 (bt a0 x5_1)))) - 48))) = true := decide_eq_true c5
            clear c5
            simp only [Option.some.injEq, Prod.mk.injEq] at H
            obtain ⟨rfl, rfl⟩ := H
            have p4 : 0 ≤ (x5_1 : Int) := of_decide_eq_true (by first | (with_reducible assumption) | assumption)
            have q4 : x5_1 < (a0.size : Int) := of_decide_eq_true (by first | (with_reducible assumption) | assumption)
            have hx4 := bt_at a0 x5_1
            replace p4 := eq_true p4
            replace q4 := eq_true q4
            go_wp2
            go_ret2
            exact ⟨by first | rfl | (simp; done) | (simp [*]; done), by repeat (first | exact Drawn0.refl _ | apply Drawn0.step)⟩
          · rw [if_neg c5] at H
            have c5b0 : decide (1099511627776 < (wrap64 ((wrap64 ((wrap64 (10 * x4_1)) + (wrap64 (bt a0 x5_1)))) - 48))) = false := decide_eq_false c5
            clear c5
            have H' := Aside0.mk H
            clear H
            have p4 : 0 ≤ (x5_1 : Int) := of_decide_eq_true (by first | (with_reducible assumption) | assumption)
            have q4 : x5_1 < (a0.size : Int) := of_decide_eq_true (by first | (with_reducible assumption) | assumption)
            have hx4 := bt_at a0 x5_1
            replace p4 := eq_true p4
            replace q4 := eq_true q4
            go_wp2
            go_roundg k1
            case measure => have := HK1.out; omega
            case rel => exact ⟨(wrap64 ((wrap64 ((wrap64 (10 * x4_1)) + (wrap64 (bt a0 x5_1)))) - 48)), (wrap64 (x5_1 + 1)), (by first | rfl | (simp; done) | (simp [*]; done)), (by first | rfl | (simp; done) | (simp [*]; done)), H', ⟨by have := HK1.out; omega⟩, by repeat (first | exact Drawn0.refl _ | apply Drawn0.step)⟩
        · rw [if_neg c3] at H
          exact absurd H (by simp)
      · rw [if_neg c2] at H
        have c2b0 : decide (x5_1 < (a0.size : Int)) = false := decide_eq_false c2
        clear c2
        simp only [Option.some.injEq, Prod.mk.injEq] at H
        obtain ⟨rfl, rfl⟩ := H
        go_wp2
        go_ret2
        exact ⟨by first | rfl | (simp; done) | (simp [*]; done), by repeat (first | exact Drawn0.refl _ | apply Drawn0.step)⟩

end Go.Proofs.YtddbkcfdfgehkaaDoor.Q
