-- slices.Insert of one number into a row of the call's own: out of the shelf's four contracts.
import Derived.Test.YtncmfomhigielaaDoorQ0
import Derived.Test.YtncmfomhigielaaDoorShelf
import Derived.WalkSpells
namespace Go.Proofs.YtncmfomhigielaaDoor.Q
open Go.RowKit Go.Proofs.YtncmfomhigielaaDoorW.PrintWords Go.Proofs.YtncmfomhigielaaDoorW.PrintLast Go.Proofs.YtncmfomhigielaaDoorW.PrintMore
attribute [local go_sem] max2_int min2_int max_two min_two max_three min_three max_four min_four   -- for this text's walks alone
set_option linter.unusedVariables false
set_option linter.unusedSimpArgs false

def putL {α : Type} : List α → Nat → List α → List α
  | l, _, [] => l
  | l, o, v :: vs => putL (l.set o v) (o + 1) vs
theorem putL_eq {α : Type} : ∀ (vs : List α) (l : List α) (o : Nat), o + vs.length ≤ l.length → putL l o vs = l.take o ++ vs ++ l.drop (o + vs.length)
  | [], l, o, _ => by simp [putL]
  | v :: vs, l, o, h => by
    simp only [List.length_cons] at h
    rw [putL, putL_eq vs (l.set o v) (o + 1) (by rw [List.length_set]; omega), List.length_cons]
    have h1 : (l.set o v).take (o + 1) = l.take o ++ [v] := by
      rw [List.take_set, List.take_succ_eq_append_getElem (by omega)]
      rw [List.set_append_right _ _ (by rw [List.length_take]; omega)]
      rw [List.length_take, Nat.min_eq_left (by omega), Nat.sub_self]; rfl
    have h2 : (l.set o v).drop (o + 1 + vs.length) = l.drop (o + (vs.length + 1)) := by
      rw [List.drop_set_of_lt (by omega)]
      congr 1; omega
    rw [h1, h2]
    simp
theorem blk_puts (b : Nat) (e : TypeId) : ∀ (vs : List Value) (o : Nat) (w : World) (cur : Array Value), w.heap[b]? = some (.cells cur e (0, 0)) → (w.setCells b o vs).heap[b]? = some (.cells (putL cur.toList o vs).toArray e (0, 0))
  | [], o, w, cur, h => by simpa [World.setCells, putL] using h
  | v :: vs, o, w, cur, h => by
    have h1 := blk_puts b e vs (o + 1) (w.setCell ⟨b, o, none⟩ v) (cur.setIfInBounds o v) (blk_put h o v rfl)
    simp only [World.setCells, putL]
    rw [h1]
    simp
theorem grown_puts {w w1 : World} {row : Option Nat} (b o : Nat) (vs : List Value) (h : w.grownBy w1 row) (hb : w.heap.size ≤ b ∨ row = some b) : w.grownBy (w1.setCells b o vs) row := by
  induction vs generalizing w1 o with
  | nil => exact h
  | cons v vs ih =>
    refine ih _ ⟨by simpa [World.setCell] using h.os, by simpa [World.setCell] using h.tape, by simpa [World.setCell] using h.output, by simpa [World.setCell] using h.size, fun k hk hn => ?_⟩
    have hkb : k ≠ b := fun e => by
      rcases hb with hb | hb
      · omega
      · exact hn (by rw [e, hb])
    exact (Below.heap_setCell w1 ⟨b, o, none⟩ v k hkb).trans (h.block k hk hn)
theorem insert_grow_own (W : World) (base cap : Nat) (t : TypeId) (cs : List Value) (n : Nat) (hcl : cs.length = n) (hm : n ≤ maxLen) (z : Array Value) (hz : z.size = 1) (hb : base ≤ W.heap.size) (row : Option Nat) :
    (W.drew.alloc (.cells (cs.toArray ++ Builtin.zeroCells z (grownCap W n cap t - n)) t)).ownsRow base t 1 (.slice (some ⟨W.heap.size, 0, none⟩) n (grownCap W n cap t)) n cs ∧
      W.grownBy (W.drew.alloc (.cells (cs.toArray ++ Builtin.zeroCells z (grownCap W n cap t - n)) t)) row := by
  have hge := grownCap_ge W n cap t
  have hcm : grownCap W n cap t ≤ maxLen := grownCap_le_maxLen W n cap t hm
  refine ⟨⟨by omega, .inr ⟨W.heap.size, _, _, rfl, hb, heap_alloc_new W.drew _, hge, hcm, ?_, ?_⟩⟩, ⟨rfl, rfl, rfl, by simp, fun k hk _ => Below.heap_alloc W.drew _ k hk⟩⟩
  · simp only [Array.size_append, List.size_toArray, size_zeroCells, hz, hcl]; omega
  · simp only [Array.toList_append, Nat.mul_one, ← hcl]
    exact List.take_left
/-- A row's cells one by one, out of the whole block. -/
theorem cells_take {cur : Array Value} {n : Nat} {xs : List Value} (h : cur.toList.take n = xs) {W : World} {g : Nat} {t : TypeId} (hg : W.heap[g]? = some (.cells cur t (0, 0))) : ∀ j v, xs[j]? = some v → W.cell? ⟨g, 0 + j, none⟩ = some v := fun j v hj => by
  rw [Nat.zero_add, blk_cell hg j]
  subst h
  rw [List.getElem?_take] at hj
  split at hj
  · simpa using hj
  · exact absurd hj (by simp)
theorem enc_one (os : List Int) : ∀ v, v ∈ encs (Value.int .i64) os → v.oneCell' = true := fun v hv => by
  obtain ⟨x, _, rfl⟩ := List.mem_map.1 hv
  rfl
set_option maxHeartbeats 1000000 in
theorem insert_any (W : World) (v : Value) (os : List Int) (ok : Nat → Prop) (hR : Kd.R (Kd.int .i64) 3 W 0 ok v os) (k : Nat) (hk : k ≤ os.length) (x : Int) (vb : Nat) (hvb : W.heap[vb]? = some (.cells #[.int .i64 x] 3 (0, 0))) (hvn : some vb ≠ v.ownBlock) (hfresh : ∀ k, W.heap.size ≤ k → ok k) (hl : os.length ≤ 1000000) :
    Calls Tryd.prog 22 #[v, .int .i64 k, .slice (some ⟨vb, 0, none⟩) 1 1] W fun e W' => ∃ v', e = .returned v' ∧ Kd.R (Kd.int .i64) 3 W' 0 ok v' (os.take k ++ x :: os.drop k) ∧ W.grownBy W' v.ownBlock ∧ (v'.ownBlock = v.ownBlock ∨ ∃ b, v'.ownBlock = some b ∧ W.heap.size ≤ b) := by
  have hown := Kd.own_of_R hR
  have hvs : ∀ j u, [Value.int .i64 x][j]? = some u → W.cell? ⟨vb, 0 + j, none⟩ = some u := cells_take (n := 1) rfl hvb
  have hml : maxLen = 9223372036854775807 := rfl
  have hfin : ∀ (e : Ending) (W' : World) (v' : Value), (hO : W'.ownsRow 0 3 1 v' (os.length + 1) (encs (Value.int .i64) (os.take k ++ x :: os.drop k))) → (∀ q, v'.ownBlock = some q → ok q) → Kd.R (Kd.int .i64) 3 W' 0 ok v' (os.take k ++ x :: os.drop k) := fun e W' v' hO hok =>
    Kd.R_of_own (by rw [show (os.take k ++ x :: os.drop k).length = os.length + 1 by simp; omega]; exact hO) hok
  have henc : encs (Value.int .i64) (os.take k ++ x :: os.drop k) = (encs (Value.int .i64) os).take k ++ [Value.int .i64 x] ++ (encs (Value.int .i64) os).drop k := by
    unfold encs; rw [List.map_append, List.map_cons, List.map_take, List.map_drop]; simp
  have hel : (encs (Value.int .i64) os).length = os.length := by simp [encs]
  rcases hown.2 with ⟨rfl, hn0⟩ | ⟨g, cap, cur, rfl, hbg, hg, hnc, hcm, hcs, htake⟩
  · have e0 : os = [] := List.eq_nil_of_length_eq_zero hn0
    subst e0
    obtain rfl : k = 0 := by simpa using hk
    refine (Any2.slices_Insert_int_end_grow Tryd.shInsertInt none 0 0 vb 0 1 1 [] [.int .i64 x] W (by omega) (by omega) (by omega) (by omega) rfl rfl (fun _ => rfl) (fun _ h => by cases h) hvs (fun u hu => by rw [List.mem_singleton.1 hu]; rfl)).mono ?_
    rintro e W' ⟨rfl, rfl⟩
    obtain ⟨h1, h2⟩ := insert_grow_own W 0 0 3 [.int .i64 x] 1 rfl (by rw [hml]; omega) (Value.int .i64 0).cells rfl (Nat.zero_le _) none
    exact ⟨_, rfl, hfin (.returned (.slice none 0 0)) _ _ h1 (fun q hq => hfresh q (by simp [Value.ownBlock] at hq; omega)), h2, .inr ⟨_, rfl, Nat.le_refl _⟩⟩
  · have hcs2 : cur.size = cap := by omega
    have htk : cur.toList.take os.length = encs (Value.int .i64) os := by rw [← htake, Nat.mul_one]
    have hvg : vb ≠ g := fun e => hvn (by rw [e]; rfl)
    have hcell : ∀ j u, (encs (Value.int .i64) os)[j]? = some u → W.cell? ⟨g, 0 + j, none⟩ = some u := cells_take htk hg
    have hsome : ∀ j, j < cap → (W.cell? ⟨g, 0 + j, none⟩).isSome = true := fun j hj => by
      rw [Nat.zero_add, blk_cell hg j, Array.getElem?_eq_getElem (by omega)]; rfl
    have hfz : ∀ j, W.frozen? ⟨g, 0 + j, none⟩ = false := fun j => blk_frozen hg _
    have hokq : ∀ n q, (Value.slice (some ⟨g, 0, none⟩) n cap).ownBlock = some q → ok q := fun n q hq => hR.1 q hq
    have hen : (encs (Value.int .i64) (os.take k ++ x :: os.drop k)).length = os.length + 1 := by rw [encs_length]; simp; omega
    have hcl2 : cur.toList.length = cap := by rw [Array.length_toList]; exact hcs2
    by_cases hroom : os.length + 1 ≤ cap
    · by_cases hke : k = os.length
      · subst hke
        refine (Any2.slices_Insert_int_end_room Tryd.shInsertInt g 0 os.length cap vb 0 1 1 [.int .i64 x] W (by omega) hroom (by omega) rfl (fun j hj => by rw [Nat.zero_add, ← Nat.zero_add (os.length + j)]; exact hsome _ (by omega)) (fun j hj => by rw [Nat.zero_add, ← Nat.zero_add (os.length + j)]; exact hfz _) hvs (fun u hu => by rw [List.mem_singleton.1 hu]; rfl)).mono ?_
        rintro e W' ⟨rfl, rfl⟩
        have hb := blk_puts g 3 [.int .i64 x] (0 + os.length) W cur hg
        refine ⟨_, rfl, hfin (.returned (.slice none 0 0)) _ _ ⟨by omega, .inr ⟨g, cap, _, rfl, hbg, hb, hroom, hcm, ?_, ?_⟩⟩ (hokq _), grown_puts _ _ _ ⟨rfl, rfl, rfl, Nat.le_refl _, fun _ _ _ => rfl⟩ (.inr rfl), .inl rfl⟩
        · rw [putL_eq _ _ _ (by rw [hcl2]; simp; omega)]; simp; omega
        · rw [putL_eq _ _ _ (by rw [hcl2]; simp; omega), henc, Nat.mul_one, Nat.zero_add, htk, ← hel, List.take_length, List.drop_length]
          rw [List.append_nil, List.take_left' (by simp)]
      · refine (Any2.slices_Insert_int_shift Tryd.shInsertInt g 0 os.length cap k vb 0 1 1 (encs (Value.int .i64) os) [.int .i64 x] W (by omega) (by omega) hroom (by omega) hvg hel rfl hcell (fun j hj => hsome j (by omega)) (fun j hj => hfz j) hvs (enc_one os) (fun u hu => by rw [List.mem_singleton.1 hu]; rfl) 3 3 1 cap (by unfold World.shape?; rw [hvb]; rfl) (by unfold World.shape?; rw [hg]; simp [hcs2]) (by omega) (blk_frozen hvb _) (blk_frozen hvb _)).mono ?_
        rintro e W' ⟨rfl, rfl⟩
        have hb1 := blk_puts g 3 ((encs (Value.int .i64) os).drop k) (0 + (k + 1)) W.drew cur hg
        have hb2 := blk_puts g 3 [.int .i64 x] (0 + k) _ _ hb1
        have hL1 := putL_eq ((encs (Value.int .i64) os).drop k) cur.toList (0 + (k + 1)) (by rw [hcl2, List.length_drop, hel]; omega)
        have hl1 : (putL cur.toList (0 + (k + 1)) ((encs (Value.int .i64) os).drop k)).length = cap := by rw [hL1]; simp [hel, hcs2]; omega
        have hL2 := putL_eq [Value.int .i64 x] (putL cur.toList (0 + (k + 1)) ((encs (Value.int .i64) os).drop k)) (0 + k) (by rw [hl1]; simp; omega)
        have ht1 : (putL cur.toList (0 + (k + 1)) ((encs (Value.int .i64) os).drop k)).take k = (encs (Value.int .i64) os).take k := by
          rw [hL1, List.append_assoc, List.take_append_of_le_length (by rw [List.length_take]; omega), List.take_take, Nat.min_eq_left (by omega), ← htk, List.take_take, Nat.min_eq_left (by omega)]
        have ht2 : ∃ r, (putL cur.toList (0 + (k + 1)) ((encs (Value.int .i64) os).drop k)).drop (k + 1) = (encs (Value.int .i64) os).drop k ++ r := by
          rw [hL1, List.append_assoc, List.drop_left' (by rw [List.length_take]; omega)]; exact ⟨_, rfl⟩
        obtain ⟨r, ht2⟩ := ht2
        refine ⟨_, rfl, hfin (.returned (.slice none 0 0)) _ _ ⟨by omega, .inr ⟨g, cap, _, rfl, hbg, hb2, hroom, hcm, ?_, ?_⟩⟩ (hokq _), grown_puts _ _ _ (grown_puts _ _ _ ⟨rfl, rfl, rfl, Nat.le_refl _, fun _ _ _ => rfl⟩ (.inr rfl)) (.inr rfl), .inl rfl⟩
        · rw [List.size_toArray, hL2, List.length_append, List.length_append, List.length_take, List.length_drop, List.toList_toArray, hl1]; simp; omega
        · rw [List.toList_toArray, List.toList_toArray, hL2, henc, Nat.mul_one, Nat.zero_add, ht1]
          have e1 : (k + [Value.int .i64 x].length) = k + 1 := rfl
          rw [e1, ht2, ← List.append_assoc, List.take_left' (by simp [hel]; omega)]
    · by_cases hke : k = os.length
      · subst hke
        refine (Any2.slices_Insert_int_end_grow Tryd.shInsertInt (some ⟨g, 0, none⟩) os.length cap vb 0 1 1 (encs (Value.int .i64) os) [.int .i64 x] W (by omega) hnc (by omega) (by omega) hel rfl (fun h => by cases h) (fun a h j u hj => by obtain rfl := Option.some.inj h; rw [Addr.add_lit]; exact hcell j u hj) hvs (fun u hu => by rw [List.mem_singleton.1 hu]; rfl)).mono ?_
        rintro e W' ⟨rfl, rfl⟩
        obtain ⟨h1, h2⟩ := insert_grow_own W 0 cap 3 (encs (Value.int .i64) os ++ [.int .i64 x]) (os.length + 1) (by simp [hel]) (by rw [hml]; omega) (Value.int .i64 0).cells rfl (Nat.zero_le _) (some g)
        have e1 : encs (Value.int .i64) (os.take os.length ++ x :: os.drop os.length) = encs (Value.int .i64) os ++ [.int .i64 x] := by rw [henc, ← hel, List.take_length, List.drop_length, List.append_nil]
        exact ⟨_, rfl, hfin (.returned (.slice none 0 0)) _ _ (by rw [e1]; exact h1) (fun q hq => hfresh q (by simp [Value.ownBlock] at hq; omega)), h2, .inr ⟨_, rfl, Nat.le_refl _⟩⟩
      · refine (Any2.slices_Insert_int_grow Tryd.shInsertInt g 0 os.length cap k vb 0 1 1 (encs (Value.int .i64) os) [.int .i64 x] W (by omega) (by omega) hnc (by omega) (by omega) hel rfl hcell hvs (enc_one os) (fun u hu => by rw [List.mem_singleton.1 hu]; rfl)).mono ?_
        rintro e W' ⟨rfl, rfl⟩
        have hge := grownCap_ge W (os.length + 1) cap 3
        have hcm2 : grownCap W (os.length + 1) cap 3 ≤ maxLen := grownCap_le_maxLen W (os.length + 1) cap 3 (by rw [hml]; omega)
        obtain ⟨G, hG⟩ : ∃ G, grownCap W (os.length + 1) cap 3 = G := ⟨_, rfl⟩
        have hG2 : grownCap W (os.length + 1) cap (Tryd.shInsertInt_ren.t 3) = G := hG
        rw [hG] at hge hcm2
        rw [hG2]
        obtain ⟨arr, harr⟩ : ∃ arr, ((encs (Value.int .i64) os).take k).toArray ++ Builtin.zeroCells (Value.int .i64 0).cells (os.length + 1 - k) ++ Builtin.zeroCells (Value.int .i64 0).cells (G - (os.length + 1)) = arr := ⟨_, rfl⟩
        have hz1 : (Value.int IntKind.i64 0).cells.size = 1 := rfl
        have hsz : arr.size = G := by
          rw [← harr]; simp only [Array.size_append, List.size_toArray, List.length_take, size_zeroCells, hz1, hel]; omega
        have htk0 : arr.toList.take k = (encs (Value.int .i64) os).take k := by
          rw [← harr]; simp only [Array.toList_append, List.append_assoc, List.toList_toArray]
          rw [List.take_append_of_le_length (by rw [List.length_take]; omega), List.take_take, Nat.min_self]
        have hal : arr.toList.length = G := by rw [Array.length_toList]; exact hsz
        have hb0 : (W.alloc (.cells arr 3)).drew.heap[W.heap.size]? = some (.cells arr 3 (0, 0)) := blk_new W _
        have hb1 := blk_puts W.heap.size 3 [.int .i64 x] k _ _ hb0
        have hb2 := blk_puts W.heap.size 3 ((encs (Value.int .i64) os).drop k) (k + 1) (((W.alloc (.cells arr 3)).drew.setCells W.heap.size k [.int .i64 x]).drew) _ hb1
        have hL1 := putL_eq [Value.int .i64 x] arr.toList k (by rw [hal]; simp; omega)
        have hl1 : (putL arr.toList k [Value.int .i64 x]).length = G := by rw [hL1]; simp [hsz]; omega
        have hL2 := putL_eq ((encs (Value.int .i64) os).drop k) (putL arr.toList k [Value.int .i64 x]) (k + 1) (by rw [hl1, List.length_drop, hel]; omega)
        have ht1 : (putL arr.toList k [Value.int .i64 x]).take (k + 1) = (encs (Value.int .i64) os).take k ++ [.int .i64 x] := by
          rw [hL1, htk0, List.take_left' (by simp [hel]; omega)]
        rw [harr]
        refine ⟨_, rfl, hfin (.returned (.slice none 0 0)) _ _ ⟨by omega, .inr ⟨W.heap.size, G, _, rfl, Nat.zero_le _, hb2, hge, hcm2, ?_, ?_⟩⟩ (fun q hq => hfresh q (by simp [Value.ownBlock] at hq; omega)), grown_puts _ _ _ (w1 := ((W.alloc (.cells arr 3)).drew.setCells W.heap.size k [.int .i64 x]).drew) ?_ (.inl (Nat.le_refl _)), .inr ⟨_, rfl, Nat.le_refl _⟩⟩
        · rw [List.size_toArray, List.toList_toArray, hL2, List.length_append, List.length_append, List.length_take, List.length_drop, List.length_drop, hl1, hel]; omega
        · rw [List.toList_toArray, List.toList_toArray, hL2, henc, Nat.mul_one, ht1, List.take_left' (by simp [hel]; omega)]
        · have := grown_puts (w := W) (w1 := (W.alloc (.cells arr 3)).drew) (row := some g) W.heap.size k [.int .i64 x] ⟨rfl, rfl, rfl, by simp, fun q hq _ => Below.heap_alloc W _ q hq⟩ (.inl (Nat.le_refl _))
          exact ⟨this.os, this.tape, this.output, this.size, this.block⟩
end Go.Proofs.YtncmfomhigielaaDoor.Q
