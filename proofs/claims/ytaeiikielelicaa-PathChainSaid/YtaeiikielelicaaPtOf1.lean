/- A way of one other way. -/
import Derived.Test.YtaeiikielelicaaPtKnown
import Derived.Test.YtaeiikielelicaaPtWay1
set_option linter.unusedVariables false
set_option linter.unusedSimpArgs false
set_option linter.unusedSectionVars false
set_option linter.deprecated false
namespace Go.Proofs.Ytaeiikielelicaa.Pt
open Go.RowKit Go.Proofs Go.Am
open Pm
set_option maxRecDepth 1000000
set_option linter.unusedVariables false
set_option linter.unusedSimpArgs false
noncomputable section
/-- a row of ways. -/
theorem repW_row {W : World} (op : Int) (s : ByteArray) (g cap : Nat) (l : List (Wy × V3)) (hn : 0 < l.length) (hl : l.length ≤ 1000) (cs : Array Value) (hg : W.heap[g]? = some (.cells cs 28 (0, 0))) (hc : cs = ((l.map Prod.snd).flatMap c3).toArray)
    (hk : ∀ q ∈ l, RepW W q.1 (.agg #[q.2.1, q.2.2.1, q.2.2.2])) : RepW W (.mk op s (l.map Prod.fst)) (.agg #[.int .i64 op, .string s, .slice (some ⟨g, 0, none⟩) l.length cap]) := by
  have hget : ∀ j (q : Wy × V3) m, l[j]? = some q → m < 3 → cs[j * 3 + m]? = (c3 q.2)[m]? := fun j q m hj hm => by
    rw [hc, List.getElem?_toArray, flat3_get, show (j * 3 + m) / 3 = j by omega, show (j * 3 + m) % 3 = m by omega, List.getElem?_map, hj]
    rfl
  have e := RepW.node (w := W) op s (l.map Prod.fst) g cap (by simpa using hn) (by simpa using hl) ((Array.getElem?_eq_some_iff.1 hg).1)
    (fun j => ((l[j]?).map fun q => q.2.1).getD default) (fun j => ((l[j]?).map fun q => q.2.2.1).getD default) (fun j => ((l[j]?).map fun q => q.2.2.2).getD default) ?_ ?_
  · rw [List.length_map] at e; exact e
  · intro j hj
    rw [List.length_map] at hj
    obtain ⟨q, hq⟩ : ∃ q, l[j]? = some q := ⟨l[j], List.getElem?_eq_getElem hj⟩
    rw [hq]
    exact ⟨cell_at hg (by have := hget j q 0 hq (by omega); rw [Nat.add_zero] at this; rw [this]; rfl), cell_at hg (by rw [hget j q 1 hq (by omega)]; rfl), cell_at hg (by rw [hget j q 2 hq (by omega)]; rfl)⟩
  · intro j k hj
    rw [List.getElem?_map] at hj
    obtain ⟨q, hq, rfl⟩ := Option.map_eq_some_iff.1 hj
    rw [hq]
    exact hk q (List.mem_of_getElem? hq)
set_option maxHeartbeats 1000000 in
theorem of1_calls (op : Int) (t : Wy) (o : Int) (s : ByteArray) (a : Option Addr) (n m : Nat) (w : World) (h : RepW w t (.agg #[.int .i64 o, .string s, .slice a n m])) : Calls Try.prog 16 #[.int .i64 op, .agg #[.int .i64 o, .string s, .slice a n m]] w (WPost w (.mk op ⟨#[]⟩ [t])) := by
  obtain ⟨W3, hW3⟩ : ∃ W3, W3 = ((w.alloc (.cells #[.int .i64 o, .string s, .slice a n m] 28)).alloc (.cells #[.int .i64 0, .string ⟨#[]⟩, .slice none 0 0] 28)).alloc (.cells #[.int .i64 o, .string s, .slice a n m] 28) := ⟨_, rfl⟩
  have hB : Below w.heap.size w W3 := by rw [hW3]; exact (((Below.refl _ w).alloc (Nat.le_refl _) _).alloc (by simp) _).alloc (by simp; omega) _
  have hsz : W3.heap.size = w.heap.size + 3 := by rw [hW3]; simp
  have h1 : W3.heap[w.heap.size + 1]? = some (.cells #[.int .i64 0, .string ⟨#[]⟩, .slice none 0 0] 28 (0, 0)) := by
    rw [hW3]
    have := World.alloc_heap_new (w.alloc (.cells #[.int .i64 o, .string s, .slice a n m] 28)) (.cells #[.int .i64 0, .string ⟨#[]⟩, .slice none 0 0] 28)
    rw [World.size_alloc] at this
    exact (Below.heap_alloc _ _ _ (by simp)).trans this
  have h2 : W3.heap[w.heap.size + 2]? = some (.cells #[.int .i64 o, .string s, .slice a n m] 28 (0, 0)) := by
    rw [hW3]
    have := World.alloc_heap_new ((w.alloc (.cells #[.int .i64 o, .string s, .slice a n m] 28)).alloc (.cells #[.int .i64 0, .string ⟨#[]⟩, .slice none 0 0] 28)) (.cells #[.int .i64 o, .string s, .slice a n m] 28)
    simpa using this
  have hst := run_storeCells_at Try.prog (w.heap.size + 1) 0 28 [.int .i64 op, .string ⟨#[]⟩, .slice (some ⟨w.heap.size + 2, 0, none⟩) 1 1] 0 _ W3 h1 (by simp) (by intro u hu; simp only [List.mem_cons, List.not_mem_nil, or_false] at hu; rcases hu with rfl | rfl | rfl <;> rfl)
  change _ = Result.ok () (W3.setRow (w.heap.size + 1) #[.int .i64 op, .string ⟨#[]⟩, .slice (some ⟨w.heap.size + 2, 0, none⟩) 1 1]) at hst
  have hw3 := setRow_heap W3 (w.heap.size + 1) _ #[.int .i64 op, .string ⟨#[]⟩, .slice (some ⟨w.heap.size + 2, 0, none⟩) 1 1] 28 _ h1
  rw [hW3] at hst
  go_enter Try.func16, Try.ntmps16
  go_wp2_with (refine wpl_storeK _ rfl 28 (.tmp 4) (.tmp 8) rfl rfl ⟨w.heap.size + 1, 0, none⟩ rfl (.agg #[.int .i64 op, .string ⟨#[]⟩, .slice (some ⟨w.heap.size + 2, 0, none⟩) 1 1]) rfl 3 sz28 rfl _ hst ?_)
  rw [← hW3]
  refine bodyPost_ret (results_cell_row rfl _ _ (w.heap.size + 1) 28 _ (0, 0) _ rfl hw3 und28 rfl sz28) rfl ?_
  have hb : Below w.heap.size w (W3.setRow (w.heap.size + 1) #[.int .i64 op, .string ⟨#[]⟩, .slice (some ⟨w.heap.size + 2, 0, none⟩) 1 1]) := ⟨hB.os, hB.tape, hB.output, by simp [World.setRow]; omega, fun g hg => (setRow_other W3 _ g _ (by omega)).trans (hB.block g hg)⟩
  refine ⟨_, _, _, _, _, rfl, repW_row op ⟨#[]⟩ (w.heap.size + 2) 1 [(t, (.int .i64 o, .string s, .slice a n m))] (by simp) (by simp) _ ((setRow_other W3 _ _ _ (by omega)).trans h2) rfl (fun q hq => ?_), hb⟩
  obtain rfl := List.mem_singleton.1 hq
  exact h.later hb
end
end Go.Proofs.Ytaeiikielelicaa.Pt
