/- Region 10 of PathLaws: two ways of three made, in whatever order. -/
import Derived.Test.YtaeiikielelicaaPtRun10
set_option linter.unusedVariables false
set_option linter.unusedSimpArgs false
set_option linter.unusedSectionVars false
set_option linter.deprecated false
namespace Go.Proofs.Ytaeiikielelicaa.Pt
open Go.RowKit Go.Proofs Go.Am
open Pm
set_option maxRecDepth 1000000
set_option linter.unusedVariables false
set_option linter.unusedSimpArgs false
noncomputable section
/-- what stands between two operations of the region (bX, bY: the rows; b8, b9: the boxes). -/
structure J10 (W0 : World) (A B C : V3) (bX bY b8 b9 : Nat) (l : Nat → Bool) (v : Nat → Value) (W : World) : Prop where
  below : Below W0.heap.size W0 W
  c4 : l 4 = true → l 3 = true
  c9 : l 9 = true → l 8 = true
  c12 : l 12 = true → l 4 = true ∧ l 10 = true
  c13 : l 13 = true → l 9 = true ∧ l 11 = true
  v0 : l 0 = true → v 0 = vW A
  v1 : l 1 = true → v 1 = vW B
  v2 : l 2 = true → v 2 = vW C
  v5 : l 5 = true → v 5 = vW C
  v6 : l 6 = true → v 6 = vW A
  v7 : l 7 = true → v 7 = vW B
  v3 : l 3 = true → v 3 = .slice (some ⟨bX, 0, none⟩) 3 3 ∧ W0.heap.size ≤ bX ∧ W.heap[bX]? = some (.cells #[A.1, A.2.1, A.2.2, B.1, B.2.1, B.2.2, C.1, C.2.1, C.2.2] 28 (0, 0))
  v8 : l 8 = true → v 8 = .slice (some ⟨bY, 0, none⟩) 3 3 ∧ W0.heap.size ≤ bY ∧ W.heap[bY]? = some (.cells #[C.1, C.2.1, C.2.2, A.1, A.2.1, A.2.2, B.1, B.2.1, B.2.2] 28 (0, 0))
  v4 : l 4 = true → v 4 = .agg #[.int .i64 4, .string ⟨#[]⟩, .slice (some ⟨bX, 0, none⟩) 3 3]
  v9 : l 9 = true → v 9 = .agg #[.int .i64 4, .string ⟨#[]⟩, .slice (some ⟨bY, 0, none⟩) 3 3]
  v10 : l 10 = true → v 10 = .pointer (some ⟨b8, 0, none⟩) ∧ W0.heap.size ≤ b8 ∧ ∃ cs : Array Value, cs.size = 3 ∧ W.heap[b8]? = some (.cells cs 28 (0, 0)) ∧ (l 12 = true → cs = #[.int .i64 4, .string ⟨#[]⟩, .slice (some ⟨bX, 0, none⟩) 3 3])
  v11 : l 11 = true → v 11 = .pointer (some ⟨b9, 0, none⟩) ∧ W0.heap.size ≤ b9 ∧ ∃ cs : Array Value, cs.size = 3 ∧ W.heap[b9]? = some (.cells cs 28 (0, 0)) ∧ (l 13 = true → cs = #[.int .i64 4, .string ⟨#[]⟩, .slice (some ⟨bY, 0, none⟩) 3 3])
  apart : l 10 = true → l 11 = true → b8 ≠ b9
/-- what is read yields what stands there. -/
theorem J10.load {W0 : World} {A B C : V3} {bX bY b8 b9 : Nat} {l : Nat → Bool} {v : Nat → Value} {W : World} (h : J10 W0 A B C bX bY b8 b9 l v W) (i : Nat) (hi : l i = false) (u : Value)
    (hc : (i = 0 ∧ u = vW A) ∨ (i = 1 ∧ u = vW B) ∨ (i = 2 ∧ u = vW C) ∨ (i = 5 ∧ u = vW C) ∨ (i = 6 ∧ u = vW A) ∨ (i = 7 ∧ u = vW B)) : J10 W0 A B C bX bY b8 b9 (fun j => if j = i then true else l j) (fun j => if j = i then u else v j) W := by
  obtain ⟨h0, h1, h2, h3, h4, h5, h6, h7, h8, h9, h10, h11, h12, h13, h14, h15, h16, h17⟩ := h
  rcases hc with ⟨rfl, rfl⟩ | ⟨rfl, rfl⟩ | ⟨rfl, rfl⟩ | ⟨rfl, rfl⟩ | ⟨rfl, rfl⟩ | ⟨rfl, rfl⟩ <;> (constructor <;> first | assumption | (simp; done) | (simp; assumption))
theorem J10.alloc {W0 : World} {A B C : V3} {bX bY b8 b9 : Nat} {l : Nat → Bool} {v : Nat → Value} {W : World} (h : J10 W0 A B C bX bY b8 b9 l v W) (o : Obj) : J10 W0 A B C bX bY b8 b9 l v (W.alloc o) := by
  obtain ⟨h0, h1, h2, h3, h4, h5, h6, h7, h8, h9, h10, h11, h12, h13, h14, h15, h16, h17⟩ := h
  have hk : ∀ {g : Nat} {x : Obj}, W.heap[g]? = some x → (W.alloc o).heap[g]? = some x := fun {g x} hg => (Below.heap_alloc _ _ _ (Array.getElem?_eq_some_iff.1 hg).1).trans hg
  exact ⟨h0.alloc h0.size o, h1, h2, h3, h4, h5, h6, h7, h8, h9, h10, fun e => ⟨(h11 e).1, (h11 e).2.1, hk (h11 e).2.2⟩, fun e => ⟨(h12 e).1, (h12 e).2.1, hk (h12 e).2.2⟩, h13, h14,
    fun e => by obtain ⟨e1, e2, cs, e3, e4, e5⟩ := h15 e; exact ⟨e1, e2, cs, e3, hk e4, e5⟩, fun e => by obtain ⟨e1, e2, cs, e3, e4, e5⟩ := h16 e; exact ⟨e1, e2, cs, e3, hk e4, e5⟩, h17⟩
theorem J10.build {W0 : World} {A B C : V3} {bX bY b8 b9 : Nat} {l : Nat → Bool} {v : Nat → Value} {W : World} (h : J10 W0 A B C bX bY b8 b9 l v W) (i : Nat) (hi : l i = false) (u : Value)
    (hc : (i = 4 ∧ l 3 = true ∧ u = .agg #[.int .i64 4, .string ⟨#[]⟩, .slice (some ⟨bX, 0, none⟩) 3 3]) ∨ (i = 9 ∧ l 8 = true ∧ u = .agg #[.int .i64 4, .string ⟨#[]⟩, .slice (some ⟨bY, 0, none⟩) 3 3])) : J10 W0 A B C bX bY b8 b9 (fun j => if j = i then true else l j) (fun j => if j = i then u else v j) W := by
  obtain ⟨h0, h1, h2, h3, h4, h5, h6, h7, h8, h9, h10, h11, h12, h13, h14, h15, h16, h17⟩ := h
  rcases hc with ⟨rfl, hd, rfl⟩ | ⟨rfl, hd, rfl⟩ <;> (constructor <;> first | assumption | (simp; done) | (simp; assumption) | (simp; exact fun e => (h3 e).2) | (simp; exact fun e => (h4 e).2))
theorem J10.rowX {W0 : World} {A B C : V3} {bX bY b8 b9 : Nat} {l : Nat → Bool} {v : Nat → Value} {W : World} (h : J10 W0 A B C bX bY b8 b9 l v W) (hi : l 3 = false) :
    J10 W0 A B C W.heap.size bY b8 b9 (fun j => if j = 3 then true else l j) (fun j => if j = 3 then .slice (some ⟨W.heap.size, 0, none⟩) 3 3 else v j) (W.alloc (.cells #[A.1, A.2.1, A.2.2, B.1, B.2.1, B.2.2, C.1, C.2.1, C.2.2] 28)) := by
  have hn := World.alloc_heap_new W (.cells #[A.1, A.2.1, A.2.2, B.1, B.2.1, B.2.2, C.1, C.2.1, C.2.2] 28)
  have hs := h.below.size
  obtain ⟨h0, h1, h2, h3, h4, h5, h6, h7, h8, h9, h10, h11, h12, h13, h14, h15, h16, h17⟩ := h.alloc (.cells #[A.1, A.2.1, A.2.2, B.1, B.2.1, B.2.2, C.1, C.2.1, C.2.2] 28)
  have n4 : l 4 = false := by cases e : l 4 with | false => rfl | true => rw [h1 e] at hi; cases hi
  have n12 : l 12 = false := by cases e : l 12 with | false => rfl | true => rw [(h3 e).1] at n4; cases n4
  constructor <;> first | assumption | (simp; done) | (simp; assumption) | (intro _; exact ⟨rfl, hs, hn⟩) | (simp; exact hs) | (simp [n4]; done) | (simp [n4, n12] at *; assumption)
theorem J10.rowY {W0 : World} {A B C : V3} {bX bY b8 b9 : Nat} {l : Nat → Bool} {v : Nat → Value} {W : World} (h : J10 W0 A B C bX bY b8 b9 l v W) (hi : l 8 = false) :
    J10 W0 A B C bX W.heap.size b8 b9 (fun j => if j = 8 then true else l j) (fun j => if j = 8 then .slice (some ⟨W.heap.size, 0, none⟩) 3 3 else v j) (W.alloc (.cells #[C.1, C.2.1, C.2.2, A.1, A.2.1, A.2.2, B.1, B.2.1, B.2.2] 28)) := by
  have hn := World.alloc_heap_new W (.cells #[C.1, C.2.1, C.2.2, A.1, A.2.1, A.2.2, B.1, B.2.1, B.2.2] 28)
  have hs := h.below.size
  obtain ⟨h0, h1, h2, h3, h4, h5, h6, h7, h8, h9, h10, h11, h12, h13, h14, h15, h16, h17⟩ := h.alloc (.cells #[C.1, C.2.1, C.2.2, A.1, A.2.1, A.2.2, B.1, B.2.1, B.2.2] 28)
  have n9 : l 9 = false := by cases e : l 9 with | false => rfl | true => rw [h2 e] at hi; cases hi
  have n13 : l 13 = false := by cases e : l 13 with | false => rfl | true => rw [(h4 e).1] at n9; cases n9
  constructor <;> first | assumption | (simp; done) | (simp; assumption) | (intro _; exact ⟨rfl, hs, hn⟩) | (simp; exact hs) | (simp [n9]; done) | (simp [n9, n13] at *; assumption)
theorem J10.box8 {W0 : World} {A B C : V3} {bX bY b8 b9 : Nat} {l : Nat → Bool} {v : Nat → Value} {W : World} (h : J10 W0 A B C bX bY b8 b9 l v W) (hi : l 10 = false) :
    J10 W0 A B C bX bY W.heap.size b9 (fun j => if j = 10 then true else l j) (fun j => if j = 10 then .pointer (some ⟨W.heap.size, 0, none⟩) else v j) (W.alloc (.cells #[.int .i64 0, .string ⟨#[]⟩, .slice none 0 0] 28)) := by
  have hn := World.alloc_heap_new W (.cells #[.int .i64 0, .string ⟨#[]⟩, .slice none 0 0] 28)
  have hs := h.below.size
  have hlt : l 11 = true → W.heap.size ≠ b9 := fun e e2 => by
    obtain ⟨-, -, cs, -, e4, -⟩ := h.v11 e
    have := (Array.getElem?_eq_some_iff.1 e4).1
    omega
  obtain ⟨h0, h1, h2, h3, h4, h5, h6, h7, h8, h9, h10, h11, h12, h13, h14, h15, h16, h17⟩ := h.alloc (.cells #[.int .i64 0, .string ⟨#[]⟩, .slice none 0 0] 28)
  have n12 : l 12 = false := by cases e : l 12 with | false => rfl | true => rw [(h3 e).2] at hi; cases hi
  constructor <;> first | assumption | (simp; done) | (simp; assumption) | (intro _; exact ⟨rfl, hs, _, rfl, hn, fun e => by simp [n12] at e⟩) | (simp [n12] at *; done) | (simp [n12] at *; assumption)
theorem J10.box9 {W0 : World} {A B C : V3} {bX bY b8 b9 : Nat} {l : Nat → Bool} {v : Nat → Value} {W : World} (h : J10 W0 A B C bX bY b8 b9 l v W) (hi : l 11 = false) :
    J10 W0 A B C bX bY b8 W.heap.size (fun j => if j = 11 then true else l j) (fun j => if j = 11 then .pointer (some ⟨W.heap.size, 0, none⟩) else v j) (W.alloc (.cells #[.int .i64 0, .string ⟨#[]⟩, .slice none 0 0] 28)) := by
  have hn := World.alloc_heap_new W (.cells #[.int .i64 0, .string ⟨#[]⟩, .slice none 0 0] 28)
  have hs := h.below.size
  have hlt : l 10 = true → b8 ≠ W.heap.size := fun e e2 => by
    obtain ⟨-, -, cs, -, e4, -⟩ := h.v10 e
    have := (Array.getElem?_eq_some_iff.1 e4).1
    omega
  obtain ⟨h0, h1, h2, h3, h4, h5, h6, h7, h8, h9, h10, h11, h12, h13, h14, h15, h16, h17⟩ := h.alloc (.cells #[.int .i64 0, .string ⟨#[]⟩, .slice none 0 0] 28)
  have n13 : l 13 = false := by cases e : l 13 with | false => rfl | true => rw [(h4 e).2] at hi; cases hi
  constructor <;> first | assumption | (simp; done) | (simp; assumption) | (intro _; exact ⟨rfl, hs, _, rfl, hn, fun e => by simp [n13] at e⟩) | (simp [n13] at *; done) | (simp [n13] at *; assumption)
theorem J10.set {W0 : World} {A B C : V3} {bX bY b8 b9 : Nat} {l : Nat → Bool} {v : Nat → Value} {W : World} (h : J10 W0 A B C bX bY b8 b9 l v W) (hl4 : l 4 = true) (hl10 : l 10 = true) (hi : l 12 = false) (u : Value) :
    J10 W0 A B C bX bY b8 b9 (fun j => if j = 12 then true else l j) (fun j => if j = 12 then u else v j) (W.setRow b8 #[.int .i64 4, .string ⟨#[]⟩, .slice (some ⟨bX, 0, none⟩) 3 3]) := by
  obtain ⟨h0, h1, h2, h3, h4, h5, h6, h7, h8, h9, h10, h11, h12, h13, h14, h15, h16, h17⟩ := h
  obtain ⟨p1, p2, cs, p3, p4, p5⟩ := h15 hl10
  have hnew := setRow_heap W b8 _ #[.int .i64 4, .string ⟨#[]⟩, .slice (some ⟨bX, 0, none⟩) 3 3] 28 _ p4
  have hk : ∀ {g : Nat} {x : Obj}, g ≠ b8 → W.heap[g]? = some x → (W.setRow b8 #[.int .i64 4, .string ⟨#[]⟩, .slice (some ⟨bX, 0, none⟩) 3 3]).heap[g]? = some x := fun {g x} hne hg => (setRow_other W _ g _ hne).trans hg
  have big : ∀ {g : Nat} {ds : Array Value}, ds.size = 9 → W.heap[g]? = some (.cells ds 28 (0, 0)) → g ≠ b8 := fun {g ds} hd hg e => by
    rw [e, p4] at hg
    cases hg
    omega
  have hB : Below W0.heap.size W0 (W.setRow b8 #[.int .i64 4, .string ⟨#[]⟩, .slice (some ⟨bX, 0, none⟩) 3 3]) := ⟨h0.os, h0.tape, h0.output, by have := h0.size; simp [World.setRow]; exact this, fun g hg => (setRow_other W _ g _ (by omega)).trans (h0.block g hg)⟩
  exact ⟨hB, by simpa using h1, by simpa using h2, by simpa using ⟨hl4, hl10⟩, by simpa using h4, by simpa using h5, by simpa using h6, by simpa using h7, by simpa using h8, by simpa using h9, by simpa using h10,
    fun e => ⟨(h11 (by simpa using e)).1, (h11 (by simpa using e)).2.1, hk (big rfl (h11 (by simpa using e)).2.2) (h11 (by simpa using e)).2.2⟩,
    fun e => ⟨(h12 (by simpa using e)).1, (h12 (by simpa using e)).2.1, hk (big rfl (h12 (by simpa using e)).2.2) (h12 (by simpa using e)).2.2⟩, by simpa using h13, by simpa using h14,
    fun _ => ⟨p1, p2, _, rfl, hnew, fun _ => rfl⟩,
    fun e => by
      obtain ⟨e1, e2, ds, e3, e4, e5⟩ := h16 (by simpa using e)
      exact ⟨e1, e2, ds, e3, hk (fun e6 => h17 hl10 (by simpa using e) e6.symm) e4, by simpa using e5⟩,
    by simpa using h17⟩
theorem J10.set2 {W0 : World} {A B C : V3} {bX bY b8 b9 : Nat} {l : Nat → Bool} {v : Nat → Value} {W : World} (h : J10 W0 A B C bX bY b8 b9 l v W) (hl9 : l 9 = true) (hl11 : l 11 = true) (hi : l 13 = false) (u : Value) :
    J10 W0 A B C bX bY b8 b9 (fun j => if j = 13 then true else l j) (fun j => if j = 13 then u else v j) (W.setRow b9 #[.int .i64 4, .string ⟨#[]⟩, .slice (some ⟨bY, 0, none⟩) 3 3]) := by
  obtain ⟨h0, h1, h2, h3, h4, h5, h6, h7, h8, h9, h10, h11, h12, h13, h14, h15, h16, h17⟩ := h
  obtain ⟨p1, p2, cs, p3, p4, p5⟩ := h16 hl11
  have hnew := setRow_heap W b9 _ #[.int .i64 4, .string ⟨#[]⟩, .slice (some ⟨bY, 0, none⟩) 3 3] 28 _ p4
  have hk : ∀ {g : Nat} {x : Obj}, g ≠ b9 → W.heap[g]? = some x → (W.setRow b9 #[.int .i64 4, .string ⟨#[]⟩, .slice (some ⟨bY, 0, none⟩) 3 3]).heap[g]? = some x := fun {g x} hne hg => (setRow_other W _ g _ hne).trans hg
  have big : ∀ {g : Nat} {ds : Array Value}, ds.size = 9 → W.heap[g]? = some (.cells ds 28 (0, 0)) → g ≠ b9 := fun {g ds} hd hg e => by
    rw [e, p4] at hg
    cases hg
    omega
  have hB : Below W0.heap.size W0 (W.setRow b9 #[.int .i64 4, .string ⟨#[]⟩, .slice (some ⟨bY, 0, none⟩) 3 3]) := ⟨h0.os, h0.tape, h0.output, by have := h0.size; simp [World.setRow]; exact this, fun g hg => (setRow_other W _ g _ (by omega)).trans (h0.block g hg)⟩
  exact ⟨hB, by simpa using h1, by simpa using h2, by simpa using h3, by simpa using ⟨hl9, hl11⟩, by simpa using h5, by simpa using h6, by simpa using h7, by simpa using h8, by simpa using h9, by simpa using h10,
    fun e => ⟨(h11 (by simpa using e)).1, (h11 (by simpa using e)).2.1, hk (big rfl (h11 (by simpa using e)).2.2) (h11 (by simpa using e)).2.2⟩,
    fun e => ⟨(h12 (by simpa using e)).1, (h12 (by simpa using e)).2.1, hk (big rfl (h12 (by simpa using e)).2.2) (h12 (by simpa using e)).2.2⟩, by simpa using h13, by simpa using h14,
    fun e => by
      obtain ⟨e1, e2, ds, e3, e4, e5⟩ := h15 (by simpa using e)
      exact ⟨e1, e2, ds, e3, hk (fun e6 => h17 (by simpa using e) hl11 e6) e4, by simpa using e5⟩,
    fun _ => ⟨p1, p2, _, rfl, hnew, fun _ => rfl⟩,
    by simpa using h17⟩
end
end Go.Proofs.Ytaeiikielelicaa.Pt
