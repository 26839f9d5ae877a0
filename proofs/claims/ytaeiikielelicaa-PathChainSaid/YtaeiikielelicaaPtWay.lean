/- The maker of ways: way. -/
import Derived.Test.YtaeiikielelicaaPtNext
set_option linter.unusedVariables false
set_option linter.unusedSimpArgs false
set_option linter.unusedSectionVars false
set_option linter.deprecated false
namespace Go.Proofs.Ytaeiikielelicaa.Pt
open Go.RowKit Go.Proofs Go.Am
open Pm
set_option maxRecDepth 1000000
set_option linter.unusedVariables false
set_option linter.unusedSimpArgs false
noncomputable section
/-- a way in memory, in blocks of this kind. -/
inductive RepB (N : Nat → Prop) (w : World) : Wy → Value → Prop
  | leaf (op : Int) (s : ByteArray) : RepB N w (.mk op s []) (.agg #[.int .i64 op, .string s, .slice none 0 0])
  | node (op : Int) (s : ByteArray) (kids : List Wy) (g cap : Nat) (hn : 0 < kids.length) (h : kids.length ≤ 1000) (hg : g < w.heap.size) (hN : N g) (c0 c1 c2 : Nat → Value)
      (hc : ∀ j, j < kids.length → w.cell? ⟨g, j * 3, none⟩ = some (c0 j) ∧ w.cell? ⟨g, j * 3 + 1, none⟩ = some (c1 j) ∧ w.cell? ⟨g, j * 3 + 2, none⟩ = some (c2 j))
      (hk : ∀ j (k : Wy), kids[j]? = some k → RepB N w k (.agg #[c0 j, c1 j, c2 j])) : RepB N w (.mk op s kids) (.agg #[.int .i64 op, .string s, .slice (some ⟨g, 0, none⟩) kids.length cap])
theorem RepB.rep {N : Nat → Prop} {w : World} {t : Wy} {v : Value} (h : RepB N w t v) : RepW w t v := by
  induction h with
  | leaf op s => exact .leaf op s
  | node op s kids g cap hn hl hg hN c0 c1 c2 hc hk ih => exact .node op s kids g cap hn hl hg c0 c1 c2 hc ih
theorem RepB.kept {N : Nat → Prop} {w w' : World} (hs : w.heap.size ≤ w'.heap.size) (hb : ∀ g, N g → g < w.heap.size → w'.heap[g]? = w.heap[g]?) {t : Wy} {v : Value} (h : RepB N w t v) : RepB N w' t v := by
  induction h with
  | leaf op s => exact .leaf op s
  | node op s kids g cap hn hl hg hN c0 c1 c2 hc hk ih =>
    have e : ∀ i, w'.cell? ⟨g, i, none⟩ = w.cell? ⟨g, i, none⟩ := fun i => World.cell?_of_block (w := w) (hb g hN hg)
    exact .node op s kids g cap hn hl (Nat.lt_of_lt_of_le hg hs) hN c0 c1 c2 (fun j hj => ⟨(e _).trans (hc j hj).1, (e _).trans (hc j hj).2.1, (e _).trans (hc j hj).2.2⟩) ih
theorem RepB.imp {N N' : Nat → Prop} {w : World} (hi : ∀ g, N g → g < w.heap.size → N' g) {t : Wy} {v : Value} (h : RepB N w t v) : RepB N' w t v := by
  induction h with
  | leaf op s => exact .leaf op s
  | node op s kids g cap hn hl hg hN c0 c1 c2 hc hk ih => exact .node op s kids g cap hn hl hg (hi g hN hg) c0 c1 c2 hc ih
theorem RepB.shape {N : Nat → Prop} {w : World} {t : Wy} {pv : Value} (h : RepB N w t pv) : ∃ o s a n c, pv = .agg #[.int .i64 o, .string s, .slice a n c] := h.rep.shape
theorem cell_at {w : World} {g m : Nat} {cs : Array Value} {t : TypeId} {u : Value} (h : w.heap[g]? = some (.cells cs t (0, 0))) (hm : cs[m]? = some u) : w.cell? ⟨g, m, none⟩ = some u := by simp [World.cell?, h, hm]
theorem box3 {w : World} {g : Nat} {a b c : Value} {t : TypeId} (h : w.heap[g]? = some (.cells #[a, b, c] t (0, 0))) : w.cell? ⟨g, 0, none⟩ = some a ∧ w.cell? ⟨g, 1, none⟩ = some b ∧ w.cell? ⟨g, 2, none⟩ = some c ∧ w.frozen? ⟨g, 0, none⟩ = false ∧ w.frozen? ⟨g, 1, none⟩ = false ∧ w.frozen? ⟨g, 2, none⟩ = false := by simp [World.cell?, World.frozen?, h]
theorem und28 : Try.prog.underlying 28 = some (.struct (Try.prog.fieldsOf 28)) := by kernel_rfl
theorem sz28 : (Try.prog.info? 28).map (·.size) = some 3 := by kernel_rfl
def WayPost (b : Nat) (v : Value) (w : World) (r : Wy × Nat) (e : Ending) (w' : World) : Prop := ∃ o s a n m, e = .returned (.agg #[.int .i64 o, .string s, .slice a n m]) ∧ RepB (fun g => w.heap.size ≤ g) w' r.1 (.agg #[.int .i64 o, .string s, .slice a n m]) ∧ Mk w' b v r.2 ∧ w.grownBy w' (some b)
theorem Mk.kept {w w' : World} {b : Nat} {v : Value} {at_ : Nat} (h : Mk w b v at_) (hb : w'.heap[b]? = w.heap[b]?) : Mk w' b v at_ := hb.trans h
theorem Mk.lt {w : World} {b : Nat} {v : Value} {at_ : Nat} (h : Mk w b v at_) : b < w.heap.size := (Array.getElem?_eq_some_iff.1 h).1
theorem below_b {w0 w w' : World} {b : Nat} (h : Below w0.heap.size w0 w) (hg : w.grownBy w' (some b)) (hb : w0.heap.size ≤ b) : Below w0.heap.size w0 w' := h.grown hg h.size (fun k e => by cases e; exact hb)
/-- where the maker stands. -/
structure At (w0 : World) (b : Nat) (v : Value) (ns : List Int) (w : World) (at_ : Nat) : Prop where
  bel : Below w0.heap.size w0 w
  here : Mk w b v at_
  le : at_ ≤ ns.length
theorem At.alloc {w0 w : World} {b : Nat} {v : Value} {ns : List Int} {at_ : Nat} (h : At w0 b v ns w at_) (o : Obj) : At w0 b v ns (w.alloc o) at_ := ⟨h.bel.alloc h.bel.size o, h.here.kept (Below.heap_alloc _ _ _ h.here.lt), h.le⟩
theorem At.next {w0 w w' : World} {b : Nat} {v : Value} {ns : List Int} {at_ : Nat} (h : At w0 b v ns w at_) (hb : w0.heap.size ≤ b) (n : Int) (hM : Mk w' b v (nextF ns at_ n).2) (hg : w.grownBy w' (some b)) : At w0 b v ns w' (nextF ns at_ n).2 := ⟨below_b h.bel hg hb, hM, next_at ns at_ n h.le⟩
theorem At.calls {w0 w : World} {b : Nat} {v : Value} {ns : List Int} {at_ : Nat} (h : At w0 b v ns w at_) (hN : NsOk w0 v ns) (hb : w0.heap.size ≤ b) (hl : ns.length ≤ 9223372036854775807) (n : Int) (h0 : 0 < n) (h1 : n ≤ 1000) : Calls Try.prog 42 #[.pointer (some ⟨b, 0, none⟩), .int .i64 n] w (NextPost b v w (nextF ns at_ n)) :=
  next_calls w0 b at_ v ns n w hN h.bel hb h.here h.le hl h0 h1
theorem grown_allocB {w w' : World} {o : Obj} {r : Option Nat} (hg : (w.alloc o).grownBy w' r) : w.grownBy w' r :=
  ⟨hg.os, hg.tape, hg.output, by have := hg.size; simp at this; omega, fun k hk hne => (hg.block k (by simp; omega) hne).trans (Below.heap_alloc _ _ _ hk)⟩
theorem grown_transB {w w' w2 : World} {r : Option Nat} (h : w.grownBy w' r) (k : w'.grownBy w2 r) : w.grownBy w2 r :=
  ⟨k.os.trans h.os, k.tape.trans h.tape, k.output.trans h.output, Nat.le_trans h.size k.size, fun i hi hne => (k.block i (by have := h.size; omega) hne).trans (h.block i hi hne)⟩
theorem grown_setB {w w' : World} {r : Option Nat} {a : Addr} (u : Value) (h : w.grownBy w' r) (ha : w.heap.size ≤ a.block) : w.grownBy (w'.setCell a u) r :=
  ⟨h.os, h.tape, h.output, by simpa [World.setCell] using h.size, fun i hi hne => (Below.heap_setCell _ _ _ _ (by omega)).trans (h.block i hi hne)⟩
theorem grown_row {w w' : World} {r : Option Nat} {g : Nat} (cs : Array Value) (h : w.grownBy w' r) (hg : w.heap.size ≤ g) : w.grownBy (w'.setRow g cs) r :=
  ⟨h.os, h.tape, h.output, by simpa [World.setRow] using h.size, fun i hi hne => (setRow_other w' g i cs (by omega)).trans (h.block i hi hne)⟩
set_option maxHeartbeats 2000000 in
theorem way_leaf (w0 : World) (b at_ : Nat) (v : Value) (ns : List Int) (d : Nat) (w : World) (hN : NsOk w0 v ns) (hb : w0.heap.size ≤ b) (hl : ns.length ≤ 9223372036854775807) (hA : At w0 b v ns w at_) (hd : d ≤ 1000) (hk : d = 0 ∨ (nextF ns at_ 12).1 < 3) :
    Calls Try.prog 25 #[.pointer (some ⟨b, 0, none⟩), .int .i64 (d : Int)] w (WayPost b v w (leafF ns (nextF ns at_ 12).2)) := by
  have hbw := hA.here.lt
  have h12 := (hA.alloc (.cells #[.int .i64 0, .string ⟨#[]⟩, .slice none 0 0] 28)).calls hN hb hl 12 (by decide) (by decide)
  have b12 := next_bound ns at_ 12 (by decide)
  have hA1 : ∀ (w1 : World) (o : Obj), Mk w1 b v (nextF ns at_ 12).2 → (w.alloc (.cells #[.int .i64 0, .string ⟨#[]⟩, .slice none 0 0] 28)).grownBy w1 (some b) → At w0 b v ns (w1.alloc o) (nextF ns at_ 12).2 := fun w1 o h1 h2 => ((hA.alloc _).next hb 12 h1 h2).alloc o
  have hA2 : ∀ (w1 : World) (o : Obj), At w0 b v ns (w1.alloc o) (nextF ns at_ 12).2 → Calls Try.prog 42 #[.pointer (some ⟨b, 0, none⟩), .int .i64 4] (w1.alloc o) (NextPost b v (w1.alloc o) (nextF ns (nextF ns at_ 12).2 4)) := fun w1 o h => h.calls hN hb hl 4 (by decide) (by decide)
  have b4 := next_bound ns (nextF ns at_ 12).2 4 (by decide)
  obtain ⟨m, hm⟩ : ∃ m : Nat, (nextF ns (nextF ns at_ 12).2 4).1 = (m : Int) := ⟨(nextF ns (nextF ns at_ 12).2 4).1.toNat, by omega⟩
  have hnm := fun a b c d => nm4 (a := a) (b := b) (c := c) (d := d) (m := m) (by omega)
  have hml : (m : Int) < 4 := by omega
  unfold leafF
  rw [hm]
  obtain ⟨k, hkk⟩ : ∃ k, (nextF ns at_ 12).1 = k := ⟨_, rfl⟩
  obtain ⟨p, hp⟩ : ∃ p, (nextF ns at_ 12).2 = p := ⟨_, rfl⟩
  obtain ⟨q, hq⟩ : ∃ q, nextF ns p 4 = q := ⟨_, rfl⟩
  rw [hkk] at hk b12
  have e12 : nextF ns at_ 12 = (k, p) := by rw [← hkk, ← hp]
  rw [e12] at h12
  simp only [hp] at hA1 hA2 hm b4 ⊢
  simp only [hq] at hA2 hm b4 ⊢
  obtain ⟨q1, q2⟩ := q
  dsimp only at hm hA2 b4 ⊢
  subst hm
  clear hp hkk hq e12 hA
  go_enter Try.func25, Try.ntmps25
  by_cases hd0 : d = 0
  · have hdI : (d : Int) ≤ 0 := by omega
    go_wp2_with (first
      | (go_at_call_of 42 (Value.int .i64 12); refine h12.mono ?_; rintro e w1 ⟨rfl, m1, m2, m3⟩)
      | (go_at_call_of 42 (Value.int .i64 4); refine (hA2 w1 _ (hA1 w1 _ m1 m2)).mono ?_; rintro e w2 ⟨rfl, n1, n2, n3⟩
         have hs1 : w1.heap.size = w.heap.size + 1 := by simpa using m3
         have hbs := (n2.block w1.heap.size (by simp) (by simp; omega)).trans (World.alloc_heap_new w1 _)
         rw [hs1] at hbs
         have hcs := cell_at hbs (hnm _ _ _ _)
         have hbx := (n2.block w.heap.size (by simp; omega) (by simp; omega)).trans ((Below.heap_alloc _ _ _ (by omega)).trans ((m2.block w.heap.size (by simp) (by simp; omega)).trans (World.alloc_heap_new w _)))
         have hst := run_storeCells_at Try.prog w.heap.size 0 28 [.int .i64 1, .string (nm [⟨#[112, 58, 49]⟩, ⟨#[112, 58, 50]⟩, ⟨#[112, 58, 51]⟩, ⟨#[112, 58, 57]⟩] m), .slice none 0 0] 0 _ w2 hbx (by simp) (by intro u hu; simp only [List.mem_cons, List.not_mem_nil, or_false] at hu; rcases hu with rfl | rfl | rfl <;> rfl)
         change _ = Result.ok () (w2.setRow w.heap.size #[.int .i64 1, .string (nm [⟨#[112, 58, 49]⟩, ⟨#[112, 58, 50]⟩, ⟨#[112, 58, 51]⟩, ⟨#[112, 58, 57]⟩] m), .slice none 0 0]) at hst
         have hw3 := setRow_heap w2 w.heap.size _ #[.int .i64 1, .string (nm [⟨#[112, 58, 49]⟩, ⟨#[112, 58, 50]⟩, ⟨#[112, 58, 51]⟩, ⟨#[112, 58, 57]⟩] m), .slice none 0 0] 28 _ hbx
         have hbb := setRow_other w2 w.heap.size b #[.int .i64 1, .string (nm [⟨#[112, 58, 49]⟩, ⟨#[112, 58, 50]⟩, ⟨#[112, 58, 51]⟩, ⟨#[112, 58, 57]⟩] m), .slice none 0 0] (by omega)
         have hgr := grown_row #[.int .i64 1, .string (nm [⟨#[112, 58, 49]⟩, ⟨#[112, 58, 50]⟩, ⟨#[112, 58, 51]⟩, ⟨#[112, 58, 57]⟩] m), .slice none 0 0] (grown_transB (grown_allocB m2) (grown_allocB n2)) (Nat.le_refl w.heap.size))
      | (refine wpl_storeK _ rfl 28 (.tmp 4) (.tmp 22) rfl rfl ⟨w.heap.size, 0, none⟩ rfl (.agg #[.int .i64 1, .string (nm [⟨#[112, 58, 49]⟩, ⟨#[112, 58, 50]⟩, ⟨#[112, 58, 51]⟩, ⟨#[112, 58, 57]⟩] m), .slice none 0 0]) rfl 3 sz28 rfl _ hst ?_))
    refine bodyPost_ret (results_cell_row rfl _ _ w.heap.size 28 _ (0, 0) _ rfl hw3 und28 rfl sz28) rfl ?_
    exact ⟨_, _, _, _, _, rfl, RepB.leaf _ _, n1.kept hbb, hgr⟩
  · have hdI : ¬ (d : Int) ≤ 0 := by omega
    have hk3 : k < 3 := by omega
    go_wp2_with (first
      | (go_at_call_of 42 (Value.int .i64 12); refine h12.mono ?_; rintro e w1 ⟨rfl, m1, m2, m3⟩)
      | (go_at_call_of 42 (Value.int .i64 4); refine (hA2 w1 _ (hA1 w1 _ m1 m2)).mono ?_; rintro e w2 ⟨rfl, n1, n2, n3⟩
         have hs1 : w1.heap.size = w.heap.size + 1 := by simpa using m3
         have hbs := (n2.block w1.heap.size (by simp) (by simp; omega)).trans (World.alloc_heap_new w1 _)
         rw [hs1] at hbs
         have hcs := cell_at hbs (hnm _ _ _ _)
         have hbx := (n2.block w.heap.size (by simp; omega) (by simp; omega)).trans ((Below.heap_alloc _ _ _ (by omega)).trans ((m2.block w.heap.size (by simp) (by simp; omega)).trans (World.alloc_heap_new w _)))
         have hst := run_storeCells_at Try.prog w.heap.size 0 28 [.int .i64 1, .string (nm [⟨#[112, 58, 49]⟩, ⟨#[112, 58, 50]⟩, ⟨#[112, 58, 51]⟩, ⟨#[112, 58, 57]⟩] m), .slice none 0 0] 0 _ w2 hbx (by simp) (by intro u hu; simp only [List.mem_cons, List.not_mem_nil, or_false] at hu; rcases hu with rfl | rfl | rfl <;> rfl)
         change _ = Result.ok () (w2.setRow w.heap.size #[.int .i64 1, .string (nm [⟨#[112, 58, 49]⟩, ⟨#[112, 58, 50]⟩, ⟨#[112, 58, 51]⟩, ⟨#[112, 58, 57]⟩] m), .slice none 0 0]) at hst
         have hw3 := setRow_heap w2 w.heap.size _ #[.int .i64 1, .string (nm [⟨#[112, 58, 49]⟩, ⟨#[112, 58, 50]⟩, ⟨#[112, 58, 51]⟩, ⟨#[112, 58, 57]⟩] m), .slice none 0 0] 28 _ hbx
         have hbb := setRow_other w2 w.heap.size b #[.int .i64 1, .string (nm [⟨#[112, 58, 49]⟩, ⟨#[112, 58, 50]⟩, ⟨#[112, 58, 51]⟩, ⟨#[112, 58, 57]⟩] m), .slice none 0 0] (by omega)
         have hgr := grown_row #[.int .i64 1, .string (nm [⟨#[112, 58, 49]⟩, ⟨#[112, 58, 50]⟩, ⟨#[112, 58, 51]⟩, ⟨#[112, 58, 57]⟩] m), .slice none 0 0] (grown_transB (grown_allocB m2) (grown_allocB n2)) (Nat.le_refl w.heap.size))
      | (refine wpl_storeK _ rfl 28 (.tmp 4) (.tmp 22) rfl rfl ⟨w.heap.size, 0, none⟩ rfl (.agg #[.int .i64 1, .string (nm [⟨#[112, 58, 49]⟩, ⟨#[112, 58, 50]⟩, ⟨#[112, 58, 51]⟩, ⟨#[112, 58, 57]⟩] m), .slice none 0 0]) rfl 3 sz28 rfl _ hst ?_))
    refine bodyPost_ret (results_cell_row rfl _ _ w.heap.size 28 _ (0, 0) _ rfl hw3 und28 rfl sz28) rfl ?_
    exact ⟨_, _, _, _, _, rfl, RepB.leaf _ _, n1.kept hbb, hgr⟩
end
end Go.Proofs.Ytaeiikielelicaa.Pt
