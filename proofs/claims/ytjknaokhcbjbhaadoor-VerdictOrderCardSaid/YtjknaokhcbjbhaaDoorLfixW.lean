-- The order of places, and verdicts of like sets (no program in sight).
-- PLAIN
import Derived.Test.YtjknaokhcbjbhaaDoorM0
import Derived.Test.YtjknaokhcbjbhaaDoorM22
namespace Go.Proofs.YtjknaokhcbjbhaaDoor.Q
open Go.RowKit Go.Proofs.YtjknaokhcbjbhaaDoorW.PrintWords Go.Proofs.YtjknaokhcbjbhaaDoorW.PrintLast Go.Proofs.YtjknaokhcbjbhaaDoorW.PrintMore
attribute [local go_sem] max2_int min2_int max_two min_two max_three min_three max_four min_four   -- for this text's walks alone
set_option linter.unusedVariables false
set_option linter.unusedSimpArgs false

theorem ordI_pair {ts : List TK} (hn : (ts.map (fun t => t.f10)).Nodup) : (ordI ts).Pairwise (fun x y => keyA ts x < keyA ts y) := by
 have hkey : ∀ i (h : i < ts.length), keyA ts i = ts[i].f10 := fun i h => by unfold keyA; simp [List.getD_eq_getElem?_getD, List.getElem?_eq_getElem h]
 unfold ordI
 rw [List.pairwise_map]
 have hs := List.pairwise_mergeSort (le := fun x y : Fin ts.length => decide (ts[x].f10 ≤ ts[y].f10)) (fun a b c h1 h2 => by simp at *; omega) (fun a b => by simp; omega) (List.finRange ts.length)
 have hd : (ordN ts).Nodup := (List.mergeSort_perm _ _).nodup_iff.2 (List.nodup_finRange _)
 refine (List.Pairwise.and hs hd).imp ?_
 rintro a b ⟨h1, h2⟩
 have h1 : ts[a].f10 ≤ ts[b].f10 := by simpa using h1
 have h3 : keyA ts a.val ≠ keyA ts b.val := fun e => h2 (Fin.ext (key_inj ts hn _ _ a.isLt b.isLt e))
 rw [hkey _ a.isLt, hkey _ b.isLt] at h3 ⊢
 have h1 : ts[a.val].f10 ≤ ts[b.val].f10 := h1
 omega
theorem ordI_mem (ts : List TK) (x : Nat) : x ∈ ordI ts ↔ x < ts.length :=
 ⟨ordI_lt ts x, fun h => List.mem_map.2 ⟨⟨x, h⟩, (List.mergeSort_perm _ _).mem_iff.2 (List.mem_finRange _), rfl⟩⟩
/-- Places by another list's keys. -/
theorem ordI_map (ts cs : List TK) (q : Nat → Nat) (ht : (ts.map (fun t => t.f10)).Nodup) (hc : (cs.map (fun t => t.f10)).Nodup) (hq : ∀ i, i < cs.length → q i < ts.length ∧ keyA cs i = keyA ts (q i)) (hs : ∀ x, x < ts.length → ∃ i, i < cs.length ∧ q i = x) : (ordI cs).map q = ordI ts := by
 refine sorted_unique (keyA ts) _ _ ?_ (ordI_pair ht) ?_
 ·rw [List.pairwise_map]
  refine List.Pairwise.imp_of_mem ?_ (ordI_pair hc)
  intro a b ha hb hab
  rw [(hq a (ordI_lt cs a ha)).2, (hq b (ordI_lt cs b hb)).2] at hab
  exact hab
 ·intro x
  rw [ordI_mem]
  constructor
  ·intro hx
   obtain ⟨i, hi, rfl⟩ := List.mem_map.1 hx
   exact (hq i (ordI_lt cs i hi)).1
  ·intro hx
   obtain ⟨i, hi, e⟩ := hs x hx
   exact List.mem_map.2 ⟨i, (ordI_mem cs i).2 hi, e⟩
/-- Sets that are alike but for (m,k): the same verdict. -/
theorem jdg_like {b : Int} {ts cs : List TK} (g : Int) (ht : RightS b ts) (hc : RightS b cs) (hlen : cs.length = ts.length) (hl : ∀ i (h1 : i < cs.length) (h2 : i < ts.length), likeT cs[i] ts[i]) : jdg b cs g = jdg b ts g := by
 have hord : ordI cs = ordI ts := by
  have h := ordI_map ts cs id ht.nodup hc.nodup (fun i hi => ⟨by rw [← hlen]; exact hi, by
   have h2 : i < ts.length := by rw [← hlen]; exact hi
   rw [tkA_key cs i hi, id, tkA_key ts i h2, tkA_get cs i hi, tkA_get ts i h2]
   exact (hl i hi h2).2.2.2.2.2.2.2⟩) (fun x hx => ⟨x, by rw [hlen]; exact hx, rfl⟩)
  rw [List.map_id] at h
  exact h
 unfold jdg
 rw [hord, hlen]
 refine judge_congr _ _ _ _ (fun i hi => ?_)
 have h2 := ordI_lt ts i hi
 have h1 : i < cs.length := by rw [hlen]; exact h2
 have hk := hl i h1 h2
 unfold respI
 rw [tkA_get cs i h1, tkA_get ts i h2, hk.2.1]
 congr 1
 funext w
 exact next_like b cs ts hlen hl cs[i] ts[i] hk g w
def gapN (a : Int) : Int := 1 + a % 1049576
theorem gapN_range {a : Int} (h : 0 ≤ a) : 1 ≤ gapN a ∧ gapN a ≤ 1049576 := by unfold gapN; omega
theorem u32_range {a : Int} (h : (Lit.int .u32 a).wf = true) : 0 ≤ a ∧ a ≤ 4294967295 := by
 have h2 : (decide (IntKind.u32.min ≤ a) && decide (a ≤ IntKind.u32.max)) = true := h
 simp only [Bool.and_eq_true, decide_eq_true_eq] at h2
 rw [show IntKind.u32.min = 0 by kernel_rfl, show IntKind.u32.max = 4294967295 by kernel_rfl] at h2
 exact h2
theorem u8_range {a : Int} (h : (Lit.int .u8 a).wf = true) : 0 ≤ a ∧ a ≤ 255 := by
 have h2 : (decide (IntKind.u8.min ≤ a) && decide (a ≤ IntKind.u8.max)) = true := h
 simp only [Bool.and_eq_true, decide_eq_true_eq] at h2
 rw [show IntKind.u8.min = 0 by kernel_rfl, show IntKind.u8.max = 255 by kernel_rfl] at h2
 exact h2
end Go.Proofs.YtjknaokhcbjbhaaDoor.Q
