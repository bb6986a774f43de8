-- Texts of this claim, put together: HparsC, Q9.
import Derived.Test.YtadfcdpalcgghaaDoorM0
-- The parser's numbers: walked by hand.
namespace Go.Proofs.YtadfcdpalcgghaaDoor.Q
open Go.RowKit Go.Proofs.YtadfcdpalcgghaaDoorW.PrintWords Go.Proofs.YtadfcdpalcgghaaDoorW.PrintLast Go.Proofs.YtadfcdpalcgghaaDoorW.PrintMore
attribute [local go_sem] max2_int min2_int max_two min_two max_three min_three max_four min_four   -- for this text's walks alone
set_option linter.unusedVariables false
set_option linter.unusedSimpArgs false

attribute [local go_sem] tok_f0 tok_f1 tok_f2 tok_f3 tok_f4
section
variable {w0 W W' : World} {ok : Nat → Prop} {g : Nat} {A : Option Addr} {c : Nat} {vts vhs : Value} {p : PS}
def putNs (cs : Array Value) (os : List Nat) (vs : List Int) : Array Value := (os.zip vs).foldl (fun a x => a.setIfInBounds x.1 (.int .i64 x.2)) cs
theorem zip_snoc {α β : Type} : ∀ (os : List α) (vs : List β) (v : β) (h : vs.length < os.length), os.zip (vs ++ [v]) = os.zip vs ++ [(os[vs.length], v)]
 | [], vs, v, h => by simp at h
 | o :: os, [], v, h => by simp
 | o :: os, w :: vs, v, h => by simp [zip_snoc os vs v (by simpa using h)]
theorem putNs_snoc (cs : Array Value) (os : List Nat) (vs : List Int) (v : Int) (h : vs.length < os.length) : putNs cs os (vs ++ [v]) = (putNs cs os vs).setIfInBounds os[vs.length] (.int .i64 v) := by
 unfold putNs
 rw [zip_snoc os vs v h, List.foldl_append]
 rfl
theorem putNs_size (cs : Array Value) (os : List Nat) (vs : List Int) : (putNs cs os vs).size = cs.size := by
 unfold putNs
 have : ∀ (l : List (Nat × Int)) (a : Array Value), (l.foldl (fun a x => a.setIfInBounds x.1 (.int .i64 x.2)) a).size = a.size := by
  intro l
  induction l with
  | nil => intro a; rfl
  | cons x r ih => intro a; rw [List.foldl_cons, ih]; simp
 exact this _ _
theorem nums_len : ∀ (n : Nat) (p : PS), (PS.nums n p).2.length = n
 | 0, _ => rfl
 | n + 1, p => by simp [PS.nums, nums_len n p]
theorem nums_ends : ∀ (n : Nat) (p : PS), Ends p.l → Ends (PS.nums n p).1.l
 | 0, _, h => h
 | n + 1, p, h => take_ends (nums_ends n p h) 2 (by omega) []
set_option maxHeartbeats 2000000 in
set_option maxRecDepth 100000 in
theorem numbers_ask (h : PrsX w0 ok W g A c vts vhs p) (hl : Ends p.l) (q : Nat) (tq : TypeId) (cs : Array Value) (hq : W.heap[q]? = some (.cells cs tq (0, 0))) (hqg : q ≠ g) (hwq : w0.heap.size ≤ q) (hok : ∀ k, ok k → k ≠ q)
  (os : List Nat) (ho : ∀ i (h : i < os.length), os[i] < cs.size) (tb : Nat) (tcs : Array Value) (tt : TypeId) (htb : W.heap[tb]? = some (.cells tcs tt (0, 0))) (hto : ∀ i (h : i < os.length), tcs[i]? = some (.pointer (some ⟨q, os[i], none⟩))) (htg : tb ≠ g) (htq : tb ≠ q) (hol : os.length ≤ 1000000) (ct : Nat) (hct : os.length ≤ ct) :
  Calls Tryd.prog 39 #[.pointer (some ⟨g, 0, none⟩), .slice (some ⟨tb, 0, none⟩) os.length ct] W fun e W' => e = .returned (.tuple #[]) ∧ (∃ A' c', PrsX w0 ok W' g A' c' vts vhs (PS.nums os.length p).1) ∧ W'.heap[q]? = some (.cells (putNs cs os (PS.nums os.length p).2) tq (0, 0)) ∧ Kept W W' (fun k => k = g ∨ k = q) := by
 have HX := Aside0.mk h
 have HL := Aside0.mk hl
 have HQ := Aside0.mk hq
 have HTB := Aside0.mk htb
 have HTO := Aside0.mk hto
 have HO := Aside0.mk ho
 have HOK := Aside0.mk hok
 clear h hl hq htb hto ho hok
 go_enter Tryd.func39, Tryd.ntmps39
 go_wp2_with fail
 go_loopg [8] os.length (fun kk v8 wr => ∃ i : Nat, v8 = .int .i64 i ∧ i + kk = os.length ∧ Aside0 (∃ A' c', PrsX w0 ok wr g A' c' vts vhs (PS.nums i p).1) ∧ Aside0 (wr.heap[q]? = some (.cells (putNs cs os (PS.nums i p).2) tq (0, 0))) ∧ Aside0 (Kept W wr (fun k => k = g ∨ k = q)))
 case atStart => exact ⟨0, rfl, by omega, ⟨⟨A, c, HX.out⟩⟩, ⟨by unfold putNs; simpa [PS.nums] using HQ.out⟩, ⟨Kept.refl _ _⟩⟩
 case round =>
  clear HX HQ
  obtain ⟨i, rfl, hik, HX, HQ, HK⟩ := hrel
  by_cases hlt : i < os.length
  ·have hd : decide ((i : Int) < (os.length : Int)) = true := by simp; omega
   obtain ⟨A', c', hX⟩ := HX.out
   have HX2 := Aside0.mk hX
   have htb2 := blk_kept HTB.out HK.out (fun h => by rcases h with h | h <;> omega)
   have hy : wr.cell? ⟨tb, i, none⟩ = some (.pointer (some ⟨q, os[i], none⟩)) := (blk_cell htb2 i).trans (HTO.out i hlt)
   have p0 : (0 : Int) ≤ i := by omega
   have p1 : (i : Int) < (os.length : Int) := by omega
   obtain ⟨o, hoi⟩ : ∃ o, os[i] = o := ⟨_, rfl⟩
   have HOI := Aside0.mk hoi
   have HOS : Aside0 (o < cs.size) := ⟨by rw [← hoi]; exact HO.out i hlt⟩
   rw [hoi] at hy
   have HTK := Aside0.mk (take_ask HX2.out (nums_ends i p HL.out).ne 2 none 0 [] (Kd.C_nil _ _) (Nat.le_refl _) (Nat.zero_le _))
   obtain ⟨pi, hpi⟩ : ∃ pi, (PS.nums i p) = pi := ⟨_, rfl⟩
   have HPI := Aside0.mk hpi
   rw [hpi] at HTK HX2 HQ
   clear hX htb2 hoi hpi HX
   go_wp2_with fail
   refine HTK.out.mono ?_
   rintro e wA ⟨rfl, hX, hk⟩
   obtain ⟨A2, c2, hX⟩ := hX
   have HXA := Aside0.mk hX
   have hqa := blk_kept HQ.out hk hqg
   have HQA := Aside0.mk hqa
   have HKA := Aside0.mk (kept_trans HK.out (kept_mono hk (fun k h => .inl h)))
   have hos2 : o < (putNs cs os pi.2).size := by rw [putNs_size]; exact HOS.out
   have z0 : wA.cell? ⟨q, o, none⟩ = some ((putNs cs os pi.2)[o]) := (blk_cell hqa o).trans (Array.getElem?_eq_getElem hos2)
   have z1 := blk_frozen hqa o
   obtain ⟨zv, hzv⟩ : ∃ zv, (putNs cs os pi.2)[o] = zv := ⟨_, rfl⟩
   rw [hzv] at z0
   unfold tokC
   clear hX hk hqa hos2 hzv HX2 HQ HK HTK hy
   go_wp2_with fail
   go_roundg (os.length - (i + 1))
   case measure => omega
   case rel =>
    have hlen : pi.2.length = i := by rw [← HPI.out]; exact nums_len i p
    have hn1 : PS.nums (i + 1) p = ((pi.1.take 2 []).1, pi.2 ++ [(pi.1.take 2 []).2.f2]) := by rw [PS.nums, HPI.out]; rfl
    refine ⟨i + 1, by first | rfl | simp, by omega, ⟨⟨A2, c2, ?_⟩⟩, ⟨?_⟩, ⟨HKA.out.setCell (p := ⟨q, o, none⟩) (.inl (.inr rfl)) _⟩⟩
    ·rw [hn1]; exact HXA.out.far hqg HOK.out hwq o _
    ·rw [hn1]
     rw [putNs_snoc cs os pi.2 _ (by omega)]
     have e1 : os[pi.2.length]'(by omega) = o := by rw [← HOI.out]; congr 1
     rw [e1]
     exact blk_put HQA.out o _ rfl
  ·have hd : decide ((i : Int) < (os.length : Int)) = false := by simp; omega
   obtain rfl : i = os.length := by omega
   go_wp2_with fail
   first | go_end0 | ((try simp only [Exit.inBlock, Exit.then]); refine bodyPost_ret (results_none rfl _ _ _) rfl ?_)
   exact ⟨rfl, HX.out, HQ.out, HK.out⟩
set_option maxHeartbeats 2000000 in
set_option maxRecDepth 100000 in
theorem burst_ask (h : PrsX w0 ok W g A c vts vhs p) (hl : Ends p.l) (tb : Nat) (tt : TypeId) (htb : W.heap[tb]? = some (.cells #[.pointer (some ⟨g, 4, none⟩)] tt (0, 0))) (htg : tb ≠ g) :
  Calls Tryd.prog 39 #[.pointer (some ⟨g, 0, none⟩), .slice (some ⟨tb, 0, none⟩) 1 1] W fun e W' => e = .returned (.tuple #[]) ∧ (∃ A' c', PrsX w0 ok W' g A' c' vts vhs { p.num.1 with b := p.num.2 }) ∧ Kept W W' (fun k => k = g) := by
 have HX := Aside0.mk h
 have HL := Aside0.mk hl
 have HTB := Aside0.mk htb
 clear h hl htb
 go_enter Tryd.func39, Tryd.ntmps39
 go_wp2_with fail
 go_loopg [8] 1 (fun kk v8 wr => ∃ i : Nat, v8 = .int .i64 i ∧ i + kk = 1 ∧ Aside0 (i = 0 → PrsX w0 ok wr g A c vts vhs p) ∧ Aside0 (i = 1 → ∃ A' c', PrsX w0 ok wr g A' c' vts vhs { p.num.1 with b := p.num.2 }) ∧ Aside0 (Kept W wr (fun k => k = g)))
 case atStart => exact ⟨0, rfl, by omega, ⟨fun _ => HX.out⟩, ⟨fun h => absurd h (by omega)⟩, ⟨Kept.refl _ _⟩⟩
 case round =>
  clear HX
  obtain ⟨i, rfl, hik, HX, HY, HK⟩ := hrel
  by_cases hlt : i < 1
  ·obtain rfl : i = 0 := by omega
   have HX2 := Aside0.mk (HX.out rfl)
   have htb2 := blk_kept HTB.out HK.out htg
   have hy : wr.cell? ⟨tb, 0, none⟩ = some (.pointer (some ⟨g, 4, none⟩)) := blk_cell htb2 0
   have HTK := Aside0.mk (take_ask HX2.out HL.out.ne 2 none 0 [] (Kd.C_nil _ _) (Nat.le_refl _) (Nat.zero_le _))
   clear htb2 HX HY
   go_wp2_with fail
   refine HTK.out.mono ?_
   rintro e wA ⟨rfl, hX, hk⟩
   obtain ⟨A2, c2, hX⟩ := hX
   have HXA := Aside0.mk hX
   have HKA := Aside0.mk (kept_trans HK.out hk)
   have z0 : wA.cell? ⟨g, 4, none⟩ = some (.int .i64 (p.take 2 []).1.b) := blk_cell hX.1 4
   have z1 := blk_frozen hX.1 4
   unfold tokC
   clear hX hk HX2 HK HTK hy
   go_wp2_with fail
   go_roundg 0
   case measure => omega
   case rel => exact ⟨1, by first | rfl | simp, by omega, ⟨fun h => absurd h (by omega)⟩, ⟨fun _ => ⟨A2, c2, HXA.out.put 4 _ (A' := A2) (c' := c2) (p' := { (p.take 2 []).1 with b := (p.take 2 []).2.f2 }) rfl HXA.out.2.2.1 HXA.out.2.2.2.1 rfl rfl⟩⟩, ⟨HKA.out.setCell (p := ⟨g, 4, none⟩) (.inl rfl) _⟩⟩
  ·obtain rfl : i = 1 := by omega
   go_wp2_with fail
   first | go_end0 | ((try simp only [Exit.inBlock, Exit.then]); refine bodyPost_ret (results_none rfl _ _ _) rfl ?_)
   exact ⟨rfl, HY.out (by first | rfl | trivial), HK.out⟩
/-- A row of texts that a call lays. -/
theorem texts_C (W : World) (ss : List ByteArray) (hl : ss.length ≤ 1000) : Kd.C Kd.string (W.alloc (.cells (ss.map Value.string).toArray 9 (0, 0))) (some ⟨W.heap.size, 0, none⟩) ss.length ss := by
 refine ⟨rfl, by omega, fun _ => ⟨_, rfl, fun j q hj => ⟨[.string q], rfl, rfl, fun i u hu => ?_⟩⟩⟩
 obtain ⟨rfl, rfl⟩ : i = 0 ∧ u = .string q := by
  cases i with
  | zero => exact ⟨rfl, by simpa using hu.symm⟩
  | succ i => simp at hu
 have hb := blk_cell (blk_new W (.cells (ss.map Value.string).toArray 9 (0, 0))) j
 have e : (⟨W.heap.size, 0, none⟩ : Addr).add (j * Kd.string.sz + 0) = ⟨W.heap.size, j, none⟩ := by
  rw [show j * Kd.string.sz + 0 = j by simp [Kd.string, Kd.scalar], add_at, Nat.zero_add]
 rw [e, hb]
 simp [hj]
set_option maxHeartbeats 2000000 in
set_option maxRecDepth 100000 in
theorem first_ask (h : PrsX w0 ok W g A c vts vhs p) (hl : Ends p.l) :
  Calls Tryd.prog 27 #[.pointer (some ⟨g, 0, none⟩)] W fun e W' => e = .returned (.tuple #[]) ∧ (∃ A' c', PrsX w0 ok W' g A' c' vts vhs p.first) ∧ Ends p.first.l ∧ Kept W W' (fun k => k = g) := by
 have HX := Aside0.mk h
 have HL := Aside0.mk hl
 have HGL : Aside0 (g < W.heap.size) := ⟨blk_lt h.1⟩
 clear h hl
 go_enter Tryd.func27, Tryd.ntmps27
 go_wp2_with fail
 have hb1 : Below W.heap.size W (W.alloc (.cells #[.string wBurst] 9 (0, 0))) := below_alloc (Below.refl _ _) _
 refine (take_ask (HX.out.below hb1) HL.out.ne 1 _ 1 [wBurst] (texts_C W [wBurst] (by decide)) (Nat.le_refl _) (by decide)).mono ?_
 rintro e wA ⟨rfl, hX, hk⟩
 obtain ⟨A2, c2, hX⟩ := hX
 have HKA := Aside0.mk (kept_trans (Kept.of_below hb1 (fun k => k = g)) hk)
 have HXA := Aside0.mk hX
 have HLA := Aside0.mk (take_ends HL.out 1 (by omega) [wBurst])
 obtain ⟨p1, hp1⟩ : ∃ p1, (p.take 1 [wBurst]).1 = p1 := ⟨_, rfl⟩
 have HP1 := Aside0.mk hp1
 rw [hp1] at HXA HLA
 clear hX hk hb1 hp1 HX
 go_wp2_with fail
 refine (now_ask HXA.out HLA.out.ne).mono ?_
 rintro e wB ⟨rfl, hb⟩
 have HXB := Aside0.mk (HXA.out.below hb)
 have HKB := Aside0.mk (kept_trans HKA.out (Kept.of_below hb (fun k => k = g)))
 have z6 : wB.cell? ⟨g, 6, none⟩ = some (.int .i64 p1.bt.f0) := blk_cell HXB.out.1 6
 have z7 : wB.cell? ⟨g, 7, none⟩ = some (.string p1.bt.f1) := blk_cell HXB.out.1 7
 have z8 : wB.cell? ⟨g, 8, none⟩ = some (.int .i64 p1.bt.f2) := blk_cell HXB.out.1 8
 have z9 : wB.cell? ⟨g, 9, none⟩ = some (.int .i64 p1.bt.f3) := blk_cell HXB.out.1 9
 have z10 : wB.cell? ⟨g, 10, none⟩ = some (.int .i64 p1.bt.f4) := blk_cell HXB.out.1 10
 have y6 := blk_frozen HXB.out.1 6
 have y7 := blk_frozen HXB.out.1 7
 have y8 := blk_frozen HXB.out.1 8
 have y9 := blk_frozen HXB.out.1 9
 have y10 := blk_frozen HXB.out.1 10
 unfold tokC
 clear hb HXA HKA
 go_wp2_with fail
 obtain ⟨wC, hwC⟩ : ∃ wC, wC = ((((wB.setCell ⟨g, 6, none⟩ (.int .i64 p1.now.f0)).setCell ⟨g, 7, none⟩ (.string p1.now.f1)).setCell ⟨g, 8, none⟩ (.int .i64 p1.now.f2)).setCell ⟨g, 9, none⟩ (.int .i64 p1.now.f3)).setCell ⟨g, 10, none⟩ (.int .i64 p1.now.f4) := ⟨_, rfl⟩
 have hx1 := HXB.out.put 6 (.int .i64 p1.now.f0) (A' := A2) (c' := c2) (p' := { p1 with bt := { p1.bt with f0 := p1.now.f0 } }) rfl HXB.out.2.2.1 HXB.out.2.2.2.1 rfl rfl
 have hx2 := hx1.put 7 (.string p1.now.f1) (A' := A2) (c' := c2) (p' := { p1 with bt := { p1.bt with f0 := p1.now.f0, f1 := p1.now.f1 } }) rfl HXB.out.2.2.1 HXB.out.2.2.2.1 rfl rfl
 have hx3 := hx2.put 8 (.int .i64 p1.now.f2) (A' := A2) (c' := c2) (p' := { p1 with bt := { p1.bt with f0 := p1.now.f0, f1 := p1.now.f1, f2 := p1.now.f2 } }) rfl HXB.out.2.2.1 HXB.out.2.2.2.1 rfl rfl
 have hx4 := hx3.put 9 (.int .i64 p1.now.f3) (A' := A2) (c' := c2) (p' := { p1 with bt := { p1.bt with f0 := p1.now.f0, f1 := p1.now.f1, f2 := p1.now.f2, f3 := p1.now.f3 } }) rfl HXB.out.2.2.1 HXB.out.2.2.2.1 rfl rfl
 have hx5 : PrsX w0 ok wC g A2 c2 vts vhs { p1 with bt := p1.now } := by rw [hwC]; exact hx4.put 10 (.int .i64 p1.now.f4) (A' := A2) (c' := c2) (p' := { p1 with bt := p1.now }) rfl HXB.out.2.2.1 HXB.out.2.2.2.1 rfl rfl
 have hsz : wC.heap.size = wB.heap.size := by rw [hwC]; simp
 have hkc : Kept W wC (fun k => k = g) := by rw [hwC]; exact ((((HKB.out.setCell (p := ⟨g, 6, none⟩) (.inl rfl) _).setCell (p := ⟨g, 7, none⟩) (.inl rfl) _).setCell (p := ⟨g, 8, none⟩) (.inl rfl) _).setCell (p := ⟨g, 9, none⟩) (.inl rfl) _).setCell (p := ⟨g, 10, none⟩) (.inl rfl) _
 have hgw : g < wB.heap.size := blk_lt HXB.out.1
 rw [← hwC, ← hsz]
 have HXC := Aside0.mk hx5
 have HKC := Aside0.mk hkc
 have HSZ := Aside0.mk hsz
 clear hx1 hx2 hx3 hx4 hx5 hkc hwC HXB HKB z6 z7 z8 z9 z10 y6 y7 y8 y9 y10 hsz
 have hb2 : Below wC.heap.size wC (wC.alloc (.cells #[.pointer (some ⟨g, 4, none⟩)] 78 (0, 0))) := below_alloc (Below.refl _ _) _
 refine (burst_ask (HXC.out.below hb2) HLA.out wC.heap.size _ (blk_new wC _) (by have := HSZ.out; omega)).mono ?_
 rintro e wD ⟨rfl, hX, hk⟩
 obtain ⟨A3, c3, hX⟩ := hX
 have HKD := Aside0.mk (kept_trans (kept_trans HKC.out (Kept.of_below hb2 (fun k => k = g))) hk)
 have HXD := Aside0.mk hX
 have HLD : Aside0 (Ends ({ ({ p1 with bt := p1.now } : PS).num.1 with b := ({ p1 with bt := p1.now } : PS).num.2 } : PS).l) := ⟨take_ends (p := { p1 with bt := p1.now }) HLA.out 2 (by omega) []⟩
 have HFI : Aside0 (p.first = ({ ({ p1 with bt := p1.now } : PS).num.1 with b := ({ p1 with bt := p1.now } : PS).num.2 } : PS).fin) := ⟨by unfold PS.first; rw [HP1.out]⟩
 obtain ⟨p2, hp2⟩ : ∃ p2, ({ ({ p1 with bt := p1.now } : PS).num.1 with b := ({ p1 with bt := p1.now } : PS).num.2 } : PS) = p2 := ⟨_, rfl⟩
 rw [hp2] at HXD HLD HFI
 clear hX hk hb2 HXC HKC hp2
 go_wp2_with fail
 refine (fin_ask HXD.out HLD.out).mono ?_
 rintro e wE ⟨rfl, hX, hk⟩
 have HKE := Aside0.mk (kept_trans HKD.out hk)
 have HXE := Aside0.mk hX
 clear hX hk
 go_wp2_with fail
 first | go_end0 | ((try simp only [Exit.inBlock, Exit.then]); refine bodyPost_ret (results_none rfl _ _ _) rfl ?_)
 rw [HFI.out]
 exact ⟨rfl, HXE.out, fin_ends HLD.out, HKE.out⟩
end
end Go.Proofs.YtadfcdpalcgghaaDoor.Q

-- Written for this claim by the session's own driver (wip/qprint.py) over the kit's printer, out of the translation. Not trusted: Lean checks it.
namespace Go.Proofs.YtadfcdpalcgghaaDoor.Q
open Go.RowKit Go.Proofs.YtadfcdpalcgghaaDoorW.PrintWords Go.Proofs.YtadfcdpalcgghaaDoorW.PrintLast Go.Proofs.YtadfcdpalcgghaaDoorW.PrintMore
attribute [local go_sem] max2_int min2_int max_two min_two max_three min_three max_four min_four   -- for this text's walks alone
set_option linter.unusedVariables false
set_option linter.unusedSimpArgs false

/-! ### pendulumref05_Few: function 8 -/
mutual
def pendulumref05_Few.l0 : Nat → Int → Int → List (S26) → Option (Bool)
 | 0, _, _, _ => none
 | k + 1, x3, x117000, x117001 => if x3 < (x117001.length : Int) then (pendulumref05_Few.j1 k x3 (decide (x3 < 40)) x117000 x117001) else (pendulumref05_Few.j1 k x3 false x117000 x117001)
def pendulumref05_Few.j1 : Nat → Int → Bool → Int → List (S26) → Option (Bool)
 | 0, _, _, _, _ => none
 | k + 1, x3, x12, x117000, x117001 => if x12 = true then (if 0 ≤ x3 then (if x3 < (x117001.length : Int) then (if (((rd_T26 x117001 x3).f0).size : Int) > 60 then (some false) else (pendulumref05_Few.l0 k (wrap64 (x3 + 1)) x117000 x117001)) else (none)) else (none)) else (some (decide ((x117001.length : Int) ≤ 30)))
end
def pendulumref05_Few.f (k : Nat) (a0_0 : Int) (l0_1 : List (S26)) : Option (Bool) := pendulumref05_Few.l0 k 0 a0_0 l0_1
theorem pendulumref05_Few.mono_l : ∀ k, (∀ y0 y1 y2, LeO (pendulumref05_Few.l0 k y0 y1 y2) (pendulumref05_Few.l0 (k + 1) y0 y1 y2)) ∧ (∀ y0 y1 y2 y3, LeO (pendulumref05_Few.j1 k y0 y1 y2 y3) (pendulumref05_Few.j1 (k + 1) y0 y1 y2 y3))
 | 0 => ⟨fun _ _ _ r h => by simp [pendulumref05_Few.l0] at h, fun _ _ _ _ r h => by simp [pendulumref05_Few.j1] at h⟩
 | k + 1 => by
  obtain ⟨ih0, ih1⟩ := pendulumref05_Few.mono_l k
  refine ⟨?_, ?_⟩
  ·intro y0 y1 y2
   unfold pendulumref05_Few.l0
   repeat' first
   | (with_reducible exact ih0 _ _ _)
   | (with_reducible exact ih1 _ _ _ _)
   | (with_reducible exact LeO.refl _)
   | (with_reducible exact LeO.none _)
   | (with_reducible refine LeO.ite ?_ ?_)
   | (with_reducible refine LeO.bind ?_ (fun _ => ?_))
   | exact ih0 _ _ _
   | exact ih1 _ _ _ _
   | exact LeO.none _
   | refine LeO.ite ?_ ?_
   | refine LeO.bind ?_ (fun _ => ?_)
  ·intro y0 y1 y2 y3
   unfold pendulumref05_Few.j1
   repeat' first
   | (with_reducible exact ih0 _ _ _)
   | (with_reducible exact ih1 _ _ _ _)
   | (with_reducible exact LeO.refl _)
   | (with_reducible exact LeO.none _)
   | (with_reducible refine LeO.ite ?_ ?_)
   | (with_reducible refine LeO.bind ?_ (fun _ => ?_))
   | exact ih0 _ _ _
   | exact ih1 _ _ _ _
   | exact LeO.none _
   | refine LeO.ite ?_ ?_
   | refine LeO.bind ?_ (fun _ => ?_)
theorem pendulumref05_Few.mono : ∀ a0 a1 k, LeO (pendulumref05_Few.f k a0 a1) (pendulumref05_Few.f (k + 1) a0 a1) := by
 intro a0 a1 k
 obtain ⟨ih0, ih1⟩ := pendulumref05_Few.mono_l k
 unfold pendulumref05_Few.f
 repeat' first
   | (with_reducible exact ih0 _ _ _)
   | (with_reducible exact ih1 _ _ _ _)
   | (with_reducible exact LeO.refl _)
   | (with_reducible exact LeO.none _)
   | (with_reducible refine LeO.ite ?_ ?_)
   | (with_reducible refine LeO.bind ?_ (fun _ => ?_))
   | exact ih0 _ _ _
   | exact ih1 _ _ _ _
   | exact LeO.none _
   | refine LeO.ite ?_ ?_
   | refine LeO.bind ?_ (fun _ => ?_)
set_option maxHeartbeats 8000000 in
set_option maxRecDepth 100000 in
theorem pendulumref05_Few.calls (k : Nat) (a0_0 : Int) (A0_1 : Option Addr) (c0_1 : Nat) (l0_1 : List (S26)) (r : Bool) (w : World) (hr0_1 : Kd.C k26 w A0_1 l0_1.length l0_1) (hc0_1 : l0_1.length ≤ c0_1) (h : pendulumref05_Few.f k a0_0 l0_1 = some r) :
  Calls Tryd.prog 8 #[.agg #[.int .i64 a0_0, .slice A0_1 l0_1.length c0_1]] w fun e w' => e = .returned (.bool r) ∧ Below w.heap.size w w' := by
 have hu24 := Tryd.underlying24
 have HR0_1 := Aside0.mk hr0_1
 have HC0_1 := Aside0.mk hc0_1
 clear hr0_1 hc0_1
 have HB := Aside0.mk (Below.refl w.heap.size w)
 have H : (pendulumref05_Few.l0 k 0 a0_0 l0_1) = some r := h
 clear h
 have H' := Aside0.mk H
 clear H
 go_enter Tryd.func8, Tryd.ntmps8
 go_wp2_with (first | ((with_reducible refine gate_dst (N := 1) rfl ?_); refine box_event ?hg (N := 1) ?hd (cs := #[.int .i64 a0_0, .slice A0_1 l0_1.length c0_1]) (t := 24) ?hr ?_; (case hd => rfl); (case hg => rfl); (case hr => first | (go_simp; done) | (go_simp; rfl)); intro gb116 hg w2 hbox hb; have n0_ := Aside0.mk (below_step (by repeat (first | (with_reducible first | exact HB.out | apply below_alloc | apply pw_below_drewN | apply below_drew1) | exact HB.out)) hb); have n1_ := Aside0.mk (hbox); have n2_ := Aside0.mk ((by rw [hg]; exact (below_size (by repeat (first | (with_reducible first | exact HB.out | apply below_alloc | apply pw_below_drewN | apply below_drew1) | exact HB.out))) : w.heap.size ≤ gb116)); have n3_ := Aside0.mk ((by rw [hg]; exact (below_size (by repeat (first | (with_reducible first | exact HB.out | apply below_alloc | apply pw_below_drewN | apply below_drew1) | exact HB.out))) : w.heap.size ≤ gb116)); clear HB; have HB := n0_; have BK116 := n1_; have GW116 := n2_; have GE116 := n3_; clear n0_ n1_ n2_ n3_; clear hb hbox hg))
 go_loopg [3] k (fun kq v3 w' => ∃ (x3_1 : Int), v3 = .int .i64 x3_1 ∧ Aside0 (pendulumref05_Few.l0 kq x3_1 a0_0 l0_1 = some r) ∧ Aside0 (kq ≤ k) ∧ Aside0 (w'.heap[gb116]? = some (.cells #[.int .i64 a0_0, (.slice A0_1 l0_1.length c0_1)] 24 (0, 0))) ∧ Aside0 (Below w.heap.size w w'))
 case atStart => exact ⟨(0), (by first | rfl | (simp; done) | (simp [*]; done)), H', ⟨Nat.le_refl _⟩, ⟨by (with_reducible repeat (first | refine blk_drewN ?_ _ | refine blk_drew ?_ | refine blk_alloc ?_ _)); exact BK116.out⟩, ⟨by repeat (first | (with_reducible first | exact HB.out | apply below_alloc | apply pw_below_drewN | apply below_drew1 | refine below_set ?_ GE116.out) | exact HB.out)⟩⟩
 case round =>
  clear H'
  try clear p2
  obtain ⟨x3_1, rfl, HA, HK1, BK116, HB⟩ := hrel
  cases gk with
  | zero => exact absurd HA.out (by simp [pendulumref05_Few.l0])
  | succ k1 =>
   have H := HA.out
   clear HA
   simp only [pendulumref05_Few.l0] at H
   have HC3 := Aside0.mk H
   clear H
   go_upto_region 2 with (fail)
   go_cut [12] (fun v12 wc => ∃ (kq : Nat) (x12_2 : Bool), v12 = .bool x12_2 ∧ Aside0 (pendulumref05_Few.j1 kq x3_1 x12_2 a0_0 l0_1 = some r) ∧ Aside0 (kq ≤ k1) ∧ Aside0 (wc.heap[gb116]? = some (.cells #[.int .i64 a0_0, (.slice A0_1 l0_1.length c0_1)] 24 (0, 0))) ∧ Aside0 (Below w.heap.size w wc))
   case first =>
    have H := HC3.out
    clear HC3
    by_cases c4 : x3_1 < (l0_1.length : Int)
    ·rw [if_pos c4] at H
     have c4b0 : decide (x3_1 < (l0_1.length : Int)) = true := decide_eq_true c4
     clear c4
     (first | rw [c4b0] | (simp only [i64_w, i32_w]; rw [c4b0]) | skip)
     have H' := Aside0.mk H
     clear H
     have hcz5_0 : wr.cell? ⟨gb116, 0, none⟩ = some (.int .i64 a0_0) := (blk_cell BK116.out 0).trans rfl
     have hcz5_1 : wr.cell? ⟨gb116, 1, none⟩ = some (.slice A0_1 l0_1.length c0_1) := (blk_cell BK116.out 1).trans rfl
     have hfz5_0 := blk_frozen BK116.out 0
     have hfz5_1 := blk_frozen BK116.out 1
     go_wp2
     go_meet
     case rel => exact ⟨_, (decide (x3_1 < 40)), (by first | rfl | (simp; done) | (simp [*]; done)), H', ⟨by have := HK1.out; first | omega | exact Nat.le_refl _⟩, ⟨by (with_reducible repeat (first | refine blk_drewN ?_ _ | refine blk_drew ?_ | refine blk_alloc ?_ _)); exact BK116.out⟩, ⟨by repeat (first | (with_reducible first | exact HB.out | apply below_alloc | apply pw_below_drewN | apply below_drew1 | refine below_set ?_ GE116.out) | exact HB.out)⟩⟩
    ·rw [if_neg c4] at H
     have c4b0 : decide (x3_1 < (l0_1.length : Int)) = false := decide_eq_false c4
     clear c4
     (first | rw [c4b0] | (simp only [i64_w, i32_w]; rw [c4b0]) | skip)
     have H' := Aside0.mk H
     clear H
     have hcz6_0 : wr.cell? ⟨gb116, 0, none⟩ = some (.int .i64 a0_0) := (blk_cell BK116.out 0).trans rfl
     have hcz6_1 : wr.cell? ⟨gb116, 1, none⟩ = some (.slice A0_1 l0_1.length c0_1) := (blk_cell BK116.out 1).trans rfl
     have hfz6_0 := blk_frozen BK116.out 0
     have hfz6_1 := blk_frozen BK116.out 1
     go_wp2
     go_meet
     case rel => exact ⟨_, (false), (by first | rfl | (simp; done) | (simp [*]; done)), H', ⟨by have := HK1.out; first | omega | exact Nat.le_refl _⟩, ⟨by (with_reducible repeat (first | refine blk_drewN ?_ _ | refine blk_drew ?_ | refine blk_alloc ?_ _)); exact BK116.out⟩, ⟨by repeat (first | (with_reducible first | exact HB.out | apply below_alloc | apply pw_below_drewN | apply below_drew1 | refine below_set ?_ GE116.out) | exact HB.out)⟩⟩
   case rest =>
    clear HC3
    try clear p2
    try clear c4
    try clear c4b0
    try clear hcz5_0
    try clear hcz5_1
    try clear hcz6_0
    try clear hcz6_1
    try clear hfz5_0
    try clear hfz5_1
    try clear hfz6_0
    try clear hfz6_1
    try clear p2
    obtain ⟨kq, x12_2, rfl, HA, HJ2, BK116, HB⟩ := hcut
    cases kq with
    | zero => exact absurd HA.out (by simp [pendulumref05_Few.j1])
    | succ kj2 =>
     have H := HA.out
     clear HA
     simp only [pendulumref05_Few.j1] at H
     by_cases c7 : x12_2 = true
     ·subst c7
      have H1 : (if 0 ≤ x3_1 then (if x3_1 < (l0_1.length : Int) then (if (((rd_T26 l0_1 x3_1).f0).size : Int) > 60 then (some false) else (pendulumref05_Few.l0 kj2 (wrap64 (x3_1 + 1)) a0_0 l0_1)) else (none)) else (none)) = some r := by rw [if_pos rfl] at H; exact H
      clear H
      have H := H1
      clear H1
      by_cases c8 : 0 ≤ x3_1
      ·rw [if_pos c8] at H
       have c8b0 : decide (0 ≤ x3_1) = true := decide_eq_true c8
       clear c8
       by_cases c9 : x3_1 < (l0_1.length : Int)
       ·rw [if_pos c9] at H
        have c9b0 : decide (x3_1 < (l0_1.length : Int)) = true := decide_eq_true c9
        clear c9
        by_cases c10 : (((rd_T26 l0_1 x3_1).f0).size : Int) > 60
        ·rw [if_pos c10] at H
         have c10b0 : decide (60 < (((rd_T26 l0_1 x3_1).f0).size : Int)) = true := decide_eq_true c10
         have c10b1 : decide (60 < ((rd_T26 l0_1 x3_1).f0).size) = true := decide_eq_true (by omega)
         clear c10
         obtain rfl := Option.some.inj H
         have hcz11_0 : wc.cell? ⟨gb116, 0, none⟩ = some (.int .i64 a0_0) := (blk_cell BK116.out 0).trans rfl
         have hcz11_1 : wc.cell? ⟨gb116, 1, none⟩ = some (.slice A0_1 l0_1.length c0_1) := (blk_cell BK116.out 1).trans rfl
         have hfz11_0 := blk_frozen BK116.out 0
         have hfz11_1 := blk_frozen BK116.out 1
         have p117 : 0 ≤ (x3_1 : Int) := of_decide_eq_true (by first | (with_reducible assumption) | assumption)
         have q117 : x3_1 < (l0_1.length : Int) := of_decide_eq_true (by first | (with_reducible assumption) | assumption)
         obtain ⟨ad117, e117, hx117_0, hx117_1, hx117_2, hx117_3, hx117_4, hx117_5, hx117_6, hx117_7, hx117_8, hx117_9, hx117_10⟩ := at_T26 HR0_1.out x3_1 p117 q117
         cases e117
         replace hx117_0 := (HB.out.cell (World.block_lt_of_cell? w _ hx117_0)).trans hx117_0
         replace hx117_1 := (HB.out.cell (World.block_lt_of_cell? w _ hx117_1)).trans hx117_1
         replace hx117_2 := (HB.out.cell (World.block_lt_of_cell? w _ hx117_2)).trans hx117_2
         replace hx117_3 := (HB.out.cell (World.block_lt_of_cell? w _ hx117_3)).trans hx117_3
         replace hx117_4 := (HB.out.cell (World.block_lt_of_cell? w _ hx117_4)).trans hx117_4
         replace hx117_5 := (HB.out.cell (World.block_lt_of_cell? w _ hx117_5)).trans hx117_5
         replace hx117_6 := (HB.out.cell (World.block_lt_of_cell? w _ hx117_6)).trans hx117_6
         replace hx117_7 := (HB.out.cell (World.block_lt_of_cell? w _ hx117_7)).trans hx117_7
         replace hx117_8 := (HB.out.cell (World.block_lt_of_cell? w _ hx117_8)).trans hx117_8
         replace hx117_9 := (HB.out.cell (World.block_lt_of_cell? w _ hx117_9)).trans hx117_9
         replace hx117_10 := (HB.out.cell (World.block_lt_of_cell? w _ hx117_10)).trans hx117_10
         replace p117 := eq_true p117
         replace q117 := eq_true q117
         go_wp2
         go_ret
         exact ⟨by first | rfl | (simp [errW_none, errW_some] <;> rfl) | (simp [*, errW_none, errW_some] <;> rfl), by repeat (first | (with_reducible first | exact HB.out | apply below_alloc | apply pw_below_drewN | apply below_drew1 | refine below_set ?_ GE116.out) | exact HB.out)⟩
        ·rw [if_neg c10] at H
         have c10b0 : decide (60 < (((rd_T26 l0_1 x3_1).f0).size : Int)) = false := decide_eq_false c10
         have c10b1 : decide (60 < ((rd_T26 l0_1 x3_1).f0).size) = false := decide_eq_false (by omega)
         clear c10
         have H' := Aside0.mk H
         clear H
         have hcz12_0 : wc.cell? ⟨gb116, 0, none⟩ = some (.int .i64 a0_0) := (blk_cell BK116.out 0).trans rfl
         have hcz12_1 : wc.cell? ⟨gb116, 1, none⟩ = some (.slice A0_1 l0_1.length c0_1) := (blk_cell BK116.out 1).trans rfl
         have hfz12_0 := blk_frozen BK116.out 0
         have hfz12_1 := blk_frozen BK116.out 1
         have p117 : 0 ≤ (x3_1 : Int) := of_decide_eq_true (by first | (with_reducible assumption) | assumption)
         have q117 : x3_1 < (l0_1.length : Int) := of_decide_eq_true (by first | (with_reducible assumption) | assumption)
         obtain ⟨ad117, e117, hx117_0, hx117_1, hx117_2, hx117_3, hx117_4, hx117_5, hx117_6, hx117_7, hx117_8, hx117_9, hx117_10⟩ := at_T26 HR0_1.out x3_1 p117 q117
         cases e117
         replace hx117_0 := (HB.out.cell (World.block_lt_of_cell? w _ hx117_0)).trans hx117_0
         replace hx117_1 := (HB.out.cell (World.block_lt_of_cell? w _ hx117_1)).trans hx117_1
         replace hx117_2 := (HB.out.cell (World.block_lt_of_cell? w _ hx117_2)).trans hx117_2
         replace hx117_3 := (HB.out.cell (World.block_lt_of_cell? w _ hx117_3)).trans hx117_3
         replace hx117_4 := (HB.out.cell (World.block_lt_of_cell? w _ hx117_4)).trans hx117_4
         replace hx117_5 := (HB.out.cell (World.block_lt_of_cell? w _ hx117_5)).trans hx117_5
         replace hx117_6 := (HB.out.cell (World.block_lt_of_cell? w _ hx117_6)).trans hx117_6
         replace hx117_7 := (HB.out.cell (World.block_lt_of_cell? w _ hx117_7)).trans hx117_7
         replace hx117_8 := (HB.out.cell (World.block_lt_of_cell? w _ hx117_8)).trans hx117_8
         replace hx117_9 := (HB.out.cell (World.block_lt_of_cell? w _ hx117_9)).trans hx117_9
         replace hx117_10 := (HB.out.cell (World.block_lt_of_cell? w _ hx117_10)).trans hx117_10
         replace p117 := eq_true p117
         replace q117 := eq_true q117
         go_wp2
         go_roundg kj2
         case measure => have := HK1.out; have := HJ2.out; omega
         case rel => exact ⟨(wrap64 (x3_1 + 1)), (by first | rfl | (simp; done) | (simp [*]; done)), H', ⟨by have := HK1.out; have := HJ2.out; omega⟩, ⟨by (with_reducible repeat (first | refine blk_drewN ?_ _ | refine blk_drew ?_ | refine blk_alloc ?_ _)); exact BK116.out⟩, ⟨by repeat (first | (with_reducible first | exact HB.out | apply below_alloc | apply pw_below_drewN | apply below_drew1 | refine below_set ?_ GE116.out) | exact HB.out)⟩⟩
       ·rw [if_neg c9] at H
        exact absurd H (by simp)
      ·rw [if_neg c8] at H
       exact absurd H (by simp)
     ·replace c7 := Bool.eq_false_iff.mpr c7
      subst c7
      have H1 : (some (decide ((l0_1.length : Int) ≤ 30))) = some r := by rw [if_neg (show ¬ (false = true) by decide)] at H; exact H
      clear H
      have H := H1
      clear H1
      obtain rfl := Option.some.inj H
      have hcz13_0 : wc.cell? ⟨gb116, 0, none⟩ = some (.int .i64 a0_0) := (blk_cell BK116.out 0).trans rfl
      have hcz13_1 : wc.cell? ⟨gb116, 1, none⟩ = some (.slice A0_1 l0_1.length c0_1) := (blk_cell BK116.out 1).trans rfl
      have hfz13_0 := blk_frozen BK116.out 0
      have hfz13_1 := blk_frozen BK116.out 1
      go_wp2
      go_ret
      exact ⟨by first | rfl | (simp [errW_none, errW_some] <;> rfl) | (simp [*, errW_none, errW_some] <;> rfl), by repeat (first | (with_reducible first | exact HB.out | apply below_alloc | apply pw_below_drewN | apply below_drew1 | refine below_set ?_ GE116.out) | exact HB.out)⟩

end Go.Proofs.YtadfcdpalcgghaaDoor.Q
