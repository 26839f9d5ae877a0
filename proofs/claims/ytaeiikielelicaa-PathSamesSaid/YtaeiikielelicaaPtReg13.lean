/- Region 13 of PathSames: the ways within, and one more, put into a row of its own; in whatever order. -/
import Derived.Test.YtaeiikielelicaaPtReg10b
import Derived.Test.YtaeiikielelicaaPtSame2
set_option linter.unusedVariables false
set_option linter.unusedSimpArgs false
set_option linter.unusedSectionVars false
set_option linter.deprecated false
namespace Go.Proofs.Ytaeiikielelicaa.Pt
open Go.RowKit Go.Proofs Go.Am
open Pm
set_option maxRecDepth 1000000
set_option linter.unusedVariables false
set_option linter.unusedSimpArgs false
noncomputable section
def ops13 : Array Oper := #[{ dst := Option.some 48, op := Go.Op.buildSlice 26 0 #[], type := 26, pos := "law.go:150", after := #[], guard := Option.none }, { dst := Option.some 49, op := Go.Op.fieldAddr 28 (Go.Operand.tmp 9) 2, type := 0, pos := "law.go:150", after := #[], guard := Option.none }, { dst := Option.some 50, op := Go.Op.load 26 (Go.Operand.tmp 49), type := 26, pos := "law.go:150", after := #[{ on := 1, ground := Go.Ground.data }], guard := Option.none }, { dst := Option.some 51, op := Go.Op.call { callee := Go.Callee.builtin Go.Builtin.append, args := #[Go.Operand.tmp 48, Go.Operand.tmp 50], argTypes := #[26, 26] }, type := 26, pos := "law.go:150", after := #[{ on := 0, ground := Go.Ground.data }, { on := 2, ground := Go.Ground.data }], guard := Option.none }, { dst := Option.some 52, op := Go.Op.load 28 (Go.Operand.tmp 8), type := 28, pos := "law.go:150", after := #[], guard := Option.none }, { dst := Option.some 53, op := Go.Op.buildSlice 26 1 #[(0, Go.Operand.tmp 52)], type := 26, pos := "law.go:150", after := #[{ on := 4, ground := Go.Ground.data }], guard := Option.none }, { dst := Option.some 54, op := Go.Op.call { callee := Go.Callee.builtin Go.Builtin.append, args := #[Go.Operand.tmp 51, Go.Operand.tmp 53], argTypes := #[26, 26] }, type := 26, pos := "law.go:150", after := #[{ on := 3, ground := Go.Ground.data }, { on := 5, ground := Go.Ground.data }, { on := 3, ground := Go.Ground.chain }], guard := Option.none }, { dst := Option.some 55, op := Go.Op.fieldAddr 28 (Go.Operand.tmp 9) 2, type := 0, pos := "law.go:150", after := #[{ on := 0, ground := Go.Ground.phase }, { on := 1, ground := Go.Ground.phase }, { on := 2, ground := Go.Ground.phase }, { on := 3, ground := Go.Ground.phase }, { on := 4, ground := Go.Ground.phase }, { on := 5, ground := Go.Ground.phase }, { on := 6, ground := Go.Ground.phase }], guard := Option.none }, { dst := Option.none, op := Go.Op.store 26 (Go.Operand.tmp 55) (Go.Operand.tmp 54), type := 0, pos := "law.go:150", after := #[{ on := 7, ground := Go.Ground.data }, { on := 6, ground := Go.Ground.data }, { on := 6, ground := Go.Ground.chain }, { on := 0, ground := Go.Ground.phase }, { on := 1, ground := Go.Ground.phase }, { on := 2, ground := Go.Ground.phase }, { on := 3, ground := Go.Ground.phase }, { on := 4, ground := Go.Ground.phase }, { on := 5, ground := Go.Ground.phase }, { on := 6, ground := Go.Ground.phase }], guard := Option.none }]
theorem plain13 : Region.Plain ops13 66 := Region.plain_of_B (by kernel_rfl)
def KidsSrc (W0 : World) (x9 : Nat) (ks : Value) (kl : List V3) : Prop := (ks = .slice none 0 0 ∧ kl = []) ∨ ∃ g cap, ks = .slice (some ⟨g, 0, none⟩) kl.length cap ∧ g < W0.heap.size ∧ g ≠ x9 ∧ ∀ j u, (kl.flatMap c3)[j]? = some u → W0.cell? ⟨g, j, none⟩ = some u
structure J13 (W0 : World) (x9 : Nat) (op : Int) (s : ByteArray) (ks : Value) (kl : List V3) (B : V3) (l : Nat → Bool) (v : Nat → Value) (W : World) : Prop where
  frame : W0.grownBy W (some x9)
  d3 : l 3 = true → l 0 = true ∧ l 2 = true
  d6 : l 6 = true → l 3 = true ∧ l 5 = true
  d8 : l 8 = true → l 6 = true
  v0 : l 0 = true → l 3 = false → W.ownsRow W0.heap.size 28 3 (v 0) 0 []
  v1 : l 1 = true → v 1 = .pointer (some ⟨x9, 2, none⟩)
  v2 : l 2 = true → v 2 = ks
  v3 : l 3 = true → l 6 = false → W.ownsRow W0.heap.size 28 3 (v 3) kl.length (kl.flatMap c3)
  v4 : l 4 = true → v 4 = vW B
  v5 : l 5 = true → l 6 = false → ∃ g, v 5 = .slice (some ⟨g, 0, none⟩) 1 1 ∧ W0.heap.size ≤ g ∧ W.heap[g]? = some (.cells #[B.1, B.2.1, B.2.2] 28 (0, 0)) ∧ (l 0 = true → l 3 = false → (v 0).ownBlock ≠ some g) ∧ (l 3 = true → (v 3).ownBlock ≠ some g)
  v6 : l 6 = true → W.ownsRow W0.heap.size 28 3 (v 6) (kl.length + 1) (kl.flatMap c3 ++ Pt.c3 B)
  v7 : l 7 = true → v 7 = .pointer (some ⟨x9, 2, none⟩)
  box : W.heap[x9]? = some (.cells #[.int .i64 op, .string s, if l 8 = true then v 6 else ks] 28 (0, 0))
  size : W0.heap.size ≤ W.heap.size
/-- what is read yields what stands there. -/
theorem J13.load {W0 : World} {x9 : Nat} {op : Int} {s : ByteArray} {ks : Value} {kl : List V3} {B : V3} {l : Nat → Bool} {v : Nat → Value} {W : World} (h : J13 W0 x9 op s ks kl B l v W) (i : Nat) (hi : l i = false) (u : Value)
    (hc : (i = 1 ∧ u = .pointer (some ⟨x9, 2, none⟩)) ∨ (i = 2 ∧ u = ks) ∨ (i = 4 ∧ u = vW B) ∨ (i = 7 ∧ u = .pointer (some ⟨x9, 2, none⟩))) : J13 W0 x9 op s ks kl B (fun j => if j = i then true else l j) (fun j => if j = i then u else v j) W := by
  obtain ⟨h0, h1, h2, h3, h4, h5, h6, h7, h8, h9, h10, h11, h12, h13⟩ := h
  rcases hc with ⟨rfl, rfl⟩ | ⟨rfl, rfl⟩ | ⟨rfl, rfl⟩ | ⟨rfl, rfl⟩ <;> (constructor <;> first | assumption | (simp; done) | (simp; assumption) | (simp; exact fun e => (h1 e).1))
theorem frame_alloc {W0 W : World} {x9 : Nat} (h : W0.grownBy W (some x9)) (o : Obj) : W0.grownBy (W.alloc o) (some x9) :=
  ⟨h.os, h.tape, h.output, by have := h.size; simp; omega, fun k hk hne => (Below.heap_alloc _ _ _ (Nat.lt_of_lt_of_le hk h.size)).trans (h.block k hk hne)⟩
theorem J13.alloc {W0 : World} {x9 : Nat} {op : Int} {s : ByteArray} {ks : Value} {kl : List V3} {B : V3} {l : Nat → Bool} {v : Nat → Value} {W : World} (h : J13 W0 x9 op s ks kl B l v W) (o : Obj) : J13 W0 x9 op s ks kl B l v (W.alloc o) := by
  obtain ⟨h0, h1, h2, h3, h4, h5, h6, h7, h8, h9, h10, h11, h12, h13⟩ := h
  have hk : ∀ {g : Nat} {x : Obj}, W.heap[g]? = some x → (W.alloc o).heap[g]? = some x := fun {g x} hg => (Below.heap_alloc _ _ _ (Array.getElem?_eq_some_iff.1 hg).1).trans hg
  exact ⟨frame_alloc h0 o, h1, h2, h3, fun e e2 => (h4 e e2).alloc o, h5, h6, fun e e2 => (h7 e e2).alloc o, h8,
    fun e e2 => by obtain ⟨g, a1, a2, a3, a4, a5⟩ := h9 e e2; exact ⟨g, a1, a2, hk a3, a4, a5⟩, fun e => (h10 e).alloc o, h11, hk h12, by simp; omega⟩
theorem J13.make0 {W0 : World} {x9 : Nat} {op : Int} {s : ByteArray} {ks : Value} {kl : List V3} {B : V3} {l : Nat → Bool} {v : Nat → Value} {W : World} (h : J13 W0 x9 op s ks kl B l v W) (hi : l 0 = false) :
    J13 W0 x9 op s ks kl B (fun j => if j = 0 then true else l j) (fun j => if j = 0 then .slice (some ⟨W.heap.size, 0, none⟩) 0 0 else v j) (W.alloc (.cells #[] 28)) := by
  have hn := World.alloc_heap_new W (.cells #[] 28)
  have hs := h.size
  have hlt : ∀ g, l 5 = true → l 6 = false → v 5 = .slice (some ⟨g, 0, none⟩) 1 1 → W.heap.size ≠ g := fun g e e1 e2 e3 => by
    obtain ⟨g', a1, a2, a3, -⟩ := h.v5 e e1
    rw [a1] at e2
    cases e2
    have := (Array.getElem?_eq_some_iff.1 a3).1
    omega
  obtain ⟨h0, h1, h2, h3, h4, h5, h6, h7, h8, h9, h10, h11, h12, h13⟩ := h.alloc (.cells #[] 28)
  have n3 : l 3 = false := by cases e : l 3 with | false => rfl | true => rw [(h1 e).1] at hi; cases hi
  have n6 : l 6 = false := by cases e : l 6 with | false => rfl | true => rw [(h2 e).1] at n3; cases n3
  refine ⟨h0, by simp [n3], by simp [n6], by simpa using h3, fun _ _ => ⟨rfl, .inr ⟨W.heap.size, 0, #[], rfl, hs, hn, Nat.le_refl _, Nat.zero_le _, rfl, rfl⟩⟩, by simpa using h5, by simpa using h6, by simp [n3], by simpa using h8, fun e e2 => ?_, by simp [n6], by simpa using h11, by simpa using h12, h13⟩
  obtain ⟨g, a1, a2, a3, a4, a5⟩ := h9 (by simpa using e) n6
  refine ⟨g, by simpa using a1, a2, a3, fun _ _ e3 => ?_, by simp [n3]⟩
  have : W.heap.size = g := Option.some.inj e3
  exact hlt g (by simpa using e) n6 a1 this
theorem J13.make5 {W0 : World} {x9 : Nat} {op : Int} {s : ByteArray} {ks : Value} {kl : List V3} {B : V3} {l : Nat → Bool} {v : Nat → Value} {W : World} (h : J13 W0 x9 op s ks kl B l v W) (hi : l 5 = false) :
    J13 W0 x9 op s ks kl B (fun j => if j = 5 then true else l j) (fun j => if j = 5 then .slice (some ⟨W.heap.size, 0, none⟩) 1 1 else v j) (W.alloc (.cells #[B.1, B.2.1, B.2.2] 28)) := by
  have hn := World.alloc_heap_new W (.cells #[B.1, B.2.1, B.2.2] 28)
  have hs := h.size
  have ho0 := h.v0
  have ho3 := h.v3
  obtain ⟨h0, h1, h2, h3, h4, h5, h6, h7, h8, h9, h10, h11, h12, h13⟩ := h.alloc (.cells #[B.1, B.2.1, B.2.2] 28)
  have n6 : l 6 = false := by cases e : l 6 with | false => rfl | true => rw [(h2 e).2] at hi; cases hi
  refine ⟨h0, by simpa using h1, by simp [n6], by simpa using h3, by simpa using h4, by simpa using h5, by simpa using h6, by simpa using h7, by simpa using h8, fun e e2 => ?_, by simp [n6], by simpa using h11, by simpa using h12, h13⟩
  refine ⟨W.heap.size, rfl, hs, hn, fun e3 e4 e5 => ?_, fun e3 e5 => ?_⟩
  · have := (own_cellsB (ho0 (by simpa using e3) (by simpa using e4)) e5).2.1
    omega
  · have := (own_cellsB (ho3 (by simpa using e3) n6) e5).2.1
    omega
theorem frame_grown {W0 W W' : World} {x9 : Nat} {r : Option Nat} (h : W0.grownBy W (some x9)) (hg : W.grownBy W' r) (hr : ∀ k, r = some k → W0.heap.size ≤ k) : W0.grownBy W' (some x9) :=
  ⟨hg.os.trans h.os, hg.tape.trans h.tape, hg.output.trans h.output, Nat.le_trans h.size hg.size, fun k hk hne => (hg.block k (Nat.lt_of_lt_of_le hk h.size) (fun e => by have := hr k e.symm; omega)).trans (h.block k hk hne)⟩
theorem J13.app3 {W0 : World} {x9 : Nat} {op : Int} {s : ByteArray} {ks : Value} {kl : List V3} {B : V3} {l : Nat → Bool} {v : Nat → Value} {W W' : World} {v' : Value} (h : J13 W0 x9 op s ks kl B l v W) (hx : x9 < W0.heap.size) (hl0 : l 0 = true) (hl2 : l 2 = true) (hi : l 3 = false)
    (hown : W'.ownsRow W0.heap.size 28 3 v' kl.length (kl.flatMap Pt.c3)) (hg : W.grownBy W' (v 0).ownBlock) (hat : v'.ownBlock = (v 0).ownBlock ∨ v'.ownBlock = some W.heap.size) :
    J13 W0 x9 op s ks kl B (fun j => if j = 3 then true else l j) (fun j => if j = 3 then v' else v j) W' := by
  obtain ⟨h0, h1, h2, h3, h4, h5, h6, h7, h8, h9, h10, h11, h12, h13⟩ := h
  have n6 : l 6 = false := by cases e : l 6 with | false => rfl | true => rw [(h2 e).1] at hi; cases hi
  have n8 : l 8 = false := by cases e : l 8 with | false => rfl | true => rw [h3 e] at n6; cases n6
  have hr : ∀ k, (v 0).ownBlock = some k → W0.heap.size ≤ k := fun k e => (own_cellsB (h4 hl0 hi) e).1
  refine ⟨frame_grown h0 hg hr, by simpa using ⟨hl0, hl2⟩, by simp [n6], by simpa using h3, by simp, by simpa using h5, by simpa using h6, fun _ _ => hown, by simpa using h8, fun e e2 => ?_, by simp [n6], by simpa using h11, ?_, Nat.le_trans h13 hg.size⟩
  · obtain ⟨g, a1, a2, a3, a4, a5⟩ := h9 (by simpa using e) n6
    have hgl := (Array.getElem?_eq_some_iff.1 a3).1
    refine ⟨g, by simpa using a1, a2, (hg.block g hgl (fun e3 => a4 hl0 hi e3.symm)).trans a3, by simp, fun _ e3 => ?_⟩
    have e3' : v'.ownBlock = some g := by simpa using e3
    rcases hat with e4 | e4
    · exact a4 hl0 hi (e4.symm.trans e3')
    · rw [e4] at e3'
      have : W.heap.size = g := Option.some.inj e3'
      omega
  · have := (hg.block x9 (by omega) (fun e => by have := hr x9 e.symm; omega)).trans h12
    simpa [n8] using this
theorem J13.app6 {W0 : World} {x9 : Nat} {op : Int} {s : ByteArray} {ks : Value} {kl : List V3} {B : V3} {l : Nat → Bool} {v : Nat → Value} {W W' : World} {v' : Value} (h : J13 W0 x9 op s ks kl B l v W) (hx : x9 < W0.heap.size) (hl3 : l 3 = true) (hl5 : l 5 = true) (hi : l 6 = false)
    (hown : W'.ownsRow W0.heap.size 28 3 v' (kl.length + 1) (kl.flatMap Pt.c3 ++ Pt.c3 B)) (hg : W.grownBy W' (v 3).ownBlock) :
    J13 W0 x9 op s ks kl B (fun j => if j = 6 then true else l j) (fun j => if j = 6 then v' else v j) W' := by
  obtain ⟨h0, h1, h2, h3, h4, h5, h6, h7, h8, h9, h10, h11, h12, h13⟩ := h
  have n8 : l 8 = false := by cases e : l 8 with | false => rfl | true => rw [h3 e] at hi; cases hi
  have hr : ∀ k, (v 3).ownBlock = some k → W0.heap.size ≤ k := fun k e => (own_cellsB (h7 hl3 hi) e).1
  refine ⟨frame_grown h0 hg hr, by simpa using h1, by simpa using ⟨hl3, hl5⟩, by simp, by simp [hl3], by simpa using h5, by simpa using h6, by simp, by simpa using h8, by simp, fun _ => hown, by simpa using h11, ?_, Nat.le_trans h13 hg.size⟩
  have := (hg.block x9 (by omega) (fun e => by have := hr x9 e.symm; omega)).trans h12
  simpa [n8] using this
theorem J13.set {W0 : World} {x9 : Nat} {op : Int} {s : ByteArray} {ks : Value} {kl : List V3} {B : V3} {l : Nat → Bool} {v : Nat → Value} {W : World} (h : J13 W0 x9 op s ks kl B l v W) (hx : x9 < W0.heap.size) (hl6 : l 6 = true) (hi : l 8 = false) (u : Value) :
    J13 W0 x9 op s ks kl B (fun j => if j = 8 then true else l j) (fun j => if j = 8 then u else v j) (W.setCell ⟨x9, 2, none⟩ (v 6)) := by
  obtain ⟨h0, h1, h2, h3, h4, h5, h6, h7, h8, h9, h10, h11, h12, h13⟩ := h
  have hk : ∀ g, g ≠ x9 → (W.setCell ⟨x9, 2, none⟩ (v 6)).heap[g]? = W.heap[g]? := fun g hne => Below.heap_setCell _ _ _ g hne
  refine ⟨⟨h0.os, h0.tape, h0.output, by simpa [World.setCell] using h0.size, fun k hk2 hne => (hk k (fun e => hne (by rw [e]))).trans (h0.block k hk2 hne)⟩, by simpa using h1, by simpa using h2, by simpa using hl6, ?_, by simpa using h5, by simpa using h6, ?_, by simpa using h8, ?_, ?_, by simpa using h11, ?_, by simpa [World.setCell] using h13⟩
  · intro e e2
    have := (h2 hl6).1
    rw [show l 3 = false by simpa using e2] at this
    cases this
  · intro e e2
    rw [show l 6 = false by simpa using e2] at hl6
    cases hl6
  · intro e e2
    rw [show l 6 = false by simpa using e2] at hl6
    cases hl6
  · intro _
    have ho := h10 hl6
    exact own_keep (by simpa using ho) fun k e => hk k (fun e2 => by have := (own_cellsB ho (by simpa using e)).1; omega)
  · obtain ⟨hlt, hkk⟩ := Array.getElem?_eq_some_iff.1 h12
    show (W.heap.modify x9 _)[x9]? = _
    rw [Array.getElem?_eq_getElem (by rw [Array.size_modify]; exact hlt), Array.getElem_modify_self, hkk]
    simp [hi]
theorem got13 {a a' : Act} {l : Array Bool} {v : Nat → Value} (hs : a.tmps.size = 66) (h : Region.Got ops13 a l v a') (hl : ∀ i, i < 9 → l.getD i false = true) :
    a' = putsL [(some 48, v 0), (some 49, v 1), (some 50, v 2), (some 51, v 3), (some 52, v 4), (some 53, v 5), (some 54, v 6), (some 55, v 7)] a := by
  have g0 := h.got 0 _ 48 rfl rfl (hl 0 (by omega))
  have g1 := h.got 1 _ 49 rfl rfl (hl 1 (by omega))
  have g2 := h.got 2 _ 50 rfl rfl (hl 2 (by omega))
  have g3 := h.got 3 _ 51 rfl rfl (hl 3 (by omega))
  have g4 := h.got 4 _ 52 rfl rfl (hl 4 (by omega))
  have g5 := h.got 5 _ 53 rfl rfl (hl 5 (by omega))
  have g6 := h.got 6 _ 54 rfl rfl (hl 6 (by omega))
  have g7 := h.got 7 _ 55 rfl rfl (hl 7 (by omega))
  have hr := h.rest
  have hd := h.defers
  have : a'.tmps = (putsL [(some 48, v 0), (some 49, v 1), (some 50, v 2), (some 51, v 3), (some 52, v 4), (some 53, v 5), (some 54, v 6), (some 55, v 7)] a).tmps := by
    apply Array.ext_getElem?
    intro k
    by_cases hk : k = 48 ∨ k = 49 ∨ k = 50 ∨ k = 51 ∨ k = 52 ∨ k = 53 ∨ k = 54 ∨ k = 55
    · rcases hk with rfl | rfl | rfl | rfl | rfl | rfl | rfl | rfl <;> simp [putsL, Act.put, Array.getElem?_setIfInBounds, hs, *]
    · simp only [not_or] at hk
      obtain ⟨n0, n1, n2, n3, n4, n5, n6, n7⟩ := hk
      have := hr k (fun j o hj hd => by
        have hj14 : j < 9 := (Array.getElem?_eq_some_iff.1 hj).1
        match j, hj14, hj with
        | 0, _, hj => cases hj; cases hd; omega
        | 1, _, hj => cases hj; cases hd; omega
        | 2, _, hj => cases hj; cases hd; omega
        | 3, _, hj => cases hj; cases hd; omega
        | 4, _, hj => cases hj; cases hd; omega
        | 5, _, hj => cases hj; cases hd; omega
        | 6, _, hj => cases hj; cases hd; omega
        | 7, _, hj => cases hj; cases hd; omega
        | 8, _, hj => cases hj; cases hd
        | n + 9, h, _ => omega)
      rw [this]
      simp [putsL, Act.put, Array.getElem?_setIfInBounds, Ne.symm n0, Ne.symm n1, Ne.symm n2, Ne.symm n3, Ne.symm n4, Ne.symm n5, Ne.symm n6, Ne.symm n7]
  exact act_ext this (hd.trans (putsL_defers _ _).symm)
theorem no_dst13 (d : Nat) (hd : d = 8 ∨ d = 9) {l : Array Bool} : ∀ (j : Nat) (o : Oper), ops13[j]? = some o → o.dst = some d → l.getD j false = false := fun j o hj he => by
  have hj14 : j < 9 := (Array.getElem?_eq_some_iff.1 hj).1
  match j, hj14, hj with
  | 0, _, hj => cases hj; cases he; omega
  | 1, _, hj => cases hj; cases he; omega
  | 2, _, hj => cases hj; cases he; omega
  | 3, _, hj => cases hj; cases he; omega
  | 4, _, hj => cases hj; cases he; omega
  | 5, _, hj => cases hj; cases he; omega
  | 6, _, hj => cases hj; cases he; omega
  | 7, _, hj => cases hj; cases he; omega
  | 8, _, hj => cases hj; cases he
  | n + 9, h, _ => omega
theorem J13.whole {W0 : World} {x9 : Nat} {op : Int} {s : ByteArray} {ks : Value} {kl : List V3} {B : V3} {l : Nat → Bool} {v : Nat → Value} {W : World} (h : J13 W0 x9 op s ks kl B l v W) (hl : ∀ i, i < 9 → l i = true) :
    W0.grownBy W (some x9) ∧ W.ownsRow W0.heap.size 28 3 (v 6) (kl.length + 1) (kl.flatMap c3 ++ c3 B) ∧ W.heap[x9]? = some (.cells #[.int .i64 op, .string s, v 6] 28 (0, 0)) := by
  refine ⟨h.frame, h.v6 (hl 6 (by omega)), ?_⟩
  have := h.box
  rwa [if_pos (hl 8 (by omega))] at this
/-- what single operations do. -/
theorem run_empty (o : Oper) (ho : o.op = .buildSlice 26 0 #[]) (ev : Operand → Value) (W : World) : (execOp ev o).run Try.prog W = .ok (.value (.slice (some ⟨W.heap.size, 0, none⟩) 0 0)) (W.alloc (.cells #[] 28)) := by
  have h : (Instr.buildSlice 26 0 #[]).run Try.prog W = .ok (.slice (some ⟨W.heap.size, 0, none⟩) 0 0) (W.alloc (.cells #[] 28)) := by kernel_rfl
  simp [execOp, ho, h, Result.andThen]
theorem run_row1 (o : Oper) (x : Operand) (ho : o.op = .buildSlice 26 1 #[(0, x)]) (ev : Operand → Value) (a : V3) (hx : ev x = vW a) (W : World) : (execOp ev o).run Try.prog W = .ok (.value (.slice (some ⟨W.heap.size, 0, none⟩) 1 1)) (W.alloc (.cells #[a.1, a.2.1, a.2.2] 28)) := by
  have h : (Instr.buildSlice 26 1 #[(0, vW a)]).run Try.prog W = .ok (.slice (some ⟨W.heap.size, 0, none⟩) 1 1) (W.alloc (.cells #[a.1, a.2.1, a.2.2] 28)) := by kernel_rfl
  simp [execOp, ho, hx, h, Result.andThen]
theorem run_field2 (o : Oper) (x : Operand) (ho : o.op = .fieldAddr 28 x 2) (ev : Operand → Value) (g : Nat) (hx : ev x = .pointer (some ⟨g, 0, none⟩)) (W : World) : (execOp ev o).run Try.prog W = .ok (.value (.pointer (some ⟨g, 2, none⟩))) W := by
  have h : (Instr.fieldAt 28 (.pointer (some ⟨g, 0, none⟩)) 2).run Try.prog W = .ok (.pointer (some ⟨g, 2, none⟩)) W := by kernel_rfl
  simp [execOp, ho, hx, h, Result.andThen]
theorem run_load26 (o : Oper) (x : Operand) (ho : o.op = .load 26 x) (ev : Operand → Value) (g : Nat) (hx : ev x = .pointer (some ⟨g, 2, none⟩)) (u : Value) (W : World) (hc : W.cell? ⟨g, 2, none⟩ = some u) : (execOp ev o).run Try.prog W = .ok (.value u) W := by
  simp [execOp, ho, hx, Instr.loadAt, Instr.sureAddr, loadVar, isAgg, run_underlying und26, hc, Result.andThen]
theorem run_store26 (o : Oper) (p x : Operand) (ho : o.op = .store 26 p x) (ev : Operand → Value) (g : Nat) (hp : ev p = .pointer (some ⟨g, 2, none⟩)) (ua : Option Addr) (un um : Nat) (hx : ev x = .slice ua un um) (W : World) (c : Value) (hc : W.cell? ⟨g, 2, none⟩ = some c) (hf : W.frozen? ⟨g, 2, none⟩ = false) : (execOp ev o).run Try.prog W = .ok .skip (W.setCell ⟨g, 2, none⟩ (.slice ua un um)) := by
  have hsz : (Try.prog.info? 26).map (·.size) = some 1 := by kernel_rfl
  cases hq : Try.prog.info? 26 with
  | none => simp [hq] at hsz
  | some i =>
    have hi : i.size = 1 := by simpa [hq] using hsz
    have hcl : (Value.slice ua un um).cells = #[.slice ua un um] := rfl
    have hst := run_store Try.prog W ⟨g, 2, none⟩ (.slice ua un um) .plain rfl
    rw [hc] at hst
    have e0 : (⟨g, 2, none⟩ : Addr).add 0 = ⟨g, 2, none⟩ := by rw [addr_addT]
    simp [execOp, ho, hp, hx, Instr.storeAt, Instr.sureAddr, storeVar, sizeOf, typeInfo, hq, hi, hcl, storeCells, e0, hst, hf, Result.andThen]
theorem run_app26 (o : Oper) (s x : Operand) (ho : o.op = .call { callee := .builtin .append, args := #[s, x], argTypes := #[26, 26] }) (ev : Operand → Value) (base n : Nat) (v : Value) (xs : List Value) (W : World) (hs : ev s = v) (hown : W.ownsRow base 28 3 v n xs)
    (g m c : Nat) (news : List Value) (hx : ev x = .slice (some ⟨g, 0, none⟩) m c) (hl : news.length = m * 3) (hnews : ∀ j u, news[j]? = some u → W.cell? ⟨g, j, none⟩ = some u) (h1 : ∀ u ∈ news, u.oneCell' = true) (hn : n + m ≤ 2000) (hbase : base ≤ W.heap.size) :
    ∃ v' w', (execOp ev o).run Try.prog W = .ok (.value v') w' ∧ w'.ownsRow base 28 3 v' (n + m) (xs ++ news) ∧ W.grownBy w' v.ownBlock ∧ (v'.ownBlock = v.ownBlock ∨ v'.ownBlock = some W.heap.size) := by
  obtain ⟨i, hi, h1', h2, h3⟩ := info_parts info28
  obtain ⟨v', w', hr, q2, q3, q4, q5⟩ := run_append_own_at (P := Try.prog) W base 26 o.type 28 i _ 3 48 und26 hi h1' h2 h3 rfl (by decide) v n xs hown ⟨g, 0, none⟩ m c news hl (fun j u hj => by rw [addr_addT, Nat.zero_add]; exact hnews j u hj) h1 (by unfold maxLen; omega) (by omega) hbase
  refine ⟨v', w', ?_, q2, q3, q5⟩
  simp [execOp, ho, resolve, invoke, builtin, hs, hx, hr, Result.andThen]
theorem run_app26n (o : Oper) (s x : Operand) (ho : o.op = .call { callee := .builtin .append, args := #[s, x], argTypes := #[26, 26] }) (ev : Operand → Value) (base n : Nat) (v : Value) (xs : List Value) (W : World) (hs : ev s = v) (hown : W.ownsRow base 28 3 v n xs)
    (hx : ev x = .slice none 0 0) : (execOp ev o).run Try.prog W = .ok (.value v) W := by
  obtain ⟨i, hi, h1', h2, h3⟩ := info_parts info28
  have hr := run_append_owned_none (P := Try.prog) (w := W) base 26 o.type 28 i 3 und26 hi v n xs hown
  simp [execOp, ho, resolve, invoke, builtin, hs, hx, hr, Result.andThen]
def slV (v : Value) : Prop := ∃ a n m, v = .slice a n m
theorem own_slice {W : World} {B e size n : Nat} {v : Value} {xs : List Value} (h : W.ownsRow B e size v n xs) : ∃ a m, v = .slice a n m := by
  rcases h.2 with ⟨hv, h0⟩ | ⟨g, cap, cur, hv, _⟩
  · exact ⟨none, 0, by rw [hv, h0]⟩
  · exact ⟨_, _, hv⟩
theorem reg13 {Q : Exit → Act → World → Prop} {a : Act} {W0 : World} (hm : Try.prog.follows .mixedOrders = true) (hs : a.tmps.size = 66) (B : V3) (x8 x9 : Nat) (op : Int) (s : ByteArray) (ks : Value) (kl : List V3)
    (t8 : a.tmps[8]? = some (.pointer (some ⟨x8, 0, none⟩))) (t9 : a.tmps[9]? = some (.pointer (some ⟨x9, 0, none⟩)))
    (hB : W0.heap[x8]? = some (.cells #[B.1, B.2.1, B.2.2] 28 (0, 0))) (hC : W0.heap[x9]? = some (.cells #[.int .i64 op, .string s, ks] 28 (0, 0))) (hne : x8 ≠ x9)
    (hk : KidsSrc W0 x9 ks kl) (hkl : kl.length ≤ 1000) (h1 : ∀ u ∈ kl.flatMap c3, u.oneCell' = true) (hB1 : ∀ u ∈ c3 B, u.oneCell' = true)
    (hend : ∀ (v : Nat → Value) W, (W0.grownBy W (some x9) ∧ W.ownsRow W0.heap.size 28 3 (v 6) (kl.length + 1) (kl.flatMap c3 ++ c3 B) ∧ W.heap[x9]? = some (.cells #[.int .i64 op, .string s, v 6] 28 (0, 0))) → Q .normal (putsL [(some 48, v 0), (some 49, v 1), (some 50, v 2), (some 51, v 3), (some 52, v 4), (some 53, v 5), (some 54, v 6), (some 55, v 7)] a) W) :
    (Code.region 13 ops13 true).wp Try.prog Q a W0 := by
  have hx9 : x9 < W0.heap.size := (Array.getElem?_eq_some_iff.1 hC).1
  have hx8 : x8 < W0.heap.size := (Array.getElem?_eq_some_iff.1 hB).1
  refine wp_region_ghost hm (by rw [hs]; exact plain13) (fun l v W => J13 W0 x9 op s ks kl B (fun j => l.getD j false) v W) (fun _ => undef) ?_ ?_ ?_
  · have hf : ∀ j, (Array.replicate ops13.size false).getD j false = false := fun j => by
      rw [Array.getD_eq_getD_getElem?]
      cases hj : (Array.replicate ops13.size false)[j]? with
      | none => rfl
      | some b =>
        have := Array.mem_of_getElem? hj
        rw [Array.mem_replicate] at this
        rw [this.2]; rfl
    refine ⟨⟨rfl, rfl, rfl, Nat.le_refl _, fun _ _ _ => rfl⟩, ?_, ?_, ?_, ?_, ?_, ?_, ?_, ?_, ?_, ?_, ?_, ?_, Nat.le_refl _⟩
    case refine_12 =>
      show W0.heap[x9]? = _
      rw [hC, if_neg (by rw [hf]; decide)]
    all_goals (intro h; rw [hf] at h; cases h)
  · intro l v a' W i o hG hJ ho hi hafter
    have hset : (fun j => (l.setIfInBounds i true).getD j false) = fun j => if j = i then true else l.getD j false := funext fun j => getD_set hi j
    have hli : l.getD i false = false := by rw [Array.getD_eq_getD_getElem?, hi]; rfl
    have e8 : a'.eval (.tmp 8) = .pointer (some ⟨x8, 0, none⟩) := eval_tmp ((hG.rest 8 (no_dst13 8 (by omega))).trans t8)
    have e9 : a'.eval (.tmp 9) = .pointer (some ⟨x9, 0, none⟩) := eval_tmp ((hG.rest 9 (no_dst13 9 (by omega))).trans t9)
    have hB' : W.heap[x8]? = some (.cells #[B.1, B.2.1, B.2.2] 28 (0, 0)) := (hJ.frame.block x8 hx8 (fun e => hne (Option.some.inj e))).trans hB
    have hi14 : i < 9 := (Array.getElem?_eq_some_iff.1 ho).1
    match i, hi14, ho with
    | 0, _, ho =>
      cases ho
      exact ⟨_, _, .inl (run_empty _ rfl _ W), by rw [hset]; exact hJ.make0 hli⟩
    | 1, _, ho =>
      cases ho
      exact ⟨_, _, .inl (run_field2 _ _ rfl _ x9 e9 W), by rw [hset]; exact hJ.load 1 hli _ (.inl ⟨rfl, rfl⟩)⟩
    | 2, _, ho =>
      cases ho
      have d0 := hafter ⟨1, .data⟩ (Array.mem_of_getElem? (i := 0) rfl) rfl
      have f0 := eval_tmp ((hG.got 1 _ 49 rfl rfl d0).trans (by rw [hJ.v1 d0]))
      have n3 : l.getD 8 false = false := by
        cases e : l.getD 8 false with
        | false => rfl
        | true =>
          have h3 : l.getD 2 false = true := (hJ.d3 (hJ.d6 (hJ.d8 e)).1).2
          rw [hli] at h3
          cases h3
      have hb := hJ.box
      rw [if_neg (by rw [n3]; decide)] at hb
      exact ⟨_, _, .inl (run_load26 _ _ rfl _ x9 f0 ks W (cells3 hb).2.2), by rw [hset]; exact hJ.load 2 hli _ (.inr (.inl ⟨rfl, rfl⟩))⟩
    | 3, _, ho =>
      have hop : o.op = .call { callee := .builtin .append, args := #[.tmp 48, .tmp 50], argTypes := #[26, 26] } := by cases ho; rfl
      have d0 := hafter ⟨0, .data⟩ (by cases ho; exact Array.mem_of_getElem? (i := 0) rfl) rfl
      have d1 := hafter ⟨2, .data⟩ (by cases ho; exact Array.mem_of_getElem? (i := 1) rfl) rfl
      have f0 := eval_tmp (hG.got 0 _ 48 rfl rfl d0)
      have f1 := eval_tmp ((hG.got 2 _ 50 rfl rfl d1).trans (by rw [hJ.v2 d1]))
      have own0 := hJ.v0 d0 hli
      rcases hk with ⟨rfl, rfl⟩ | ⟨g, cap, rfl, hg, hgx, hcell⟩
      · refine ⟨_, _, .inl (run_app26n _ _ _ hop _ _ _ _ _ W f0 own0 f1), ?_⟩
        rw [hset]
        exact hJ.app3 hx9 d0 d1 hli own0 ⟨rfl, rfl, rfl, Nat.le_refl _, fun _ _ _ => rfl⟩ (.inl rfl)
      · have hWc : ∀ j u, (kl.flatMap c3)[j]? = some u → W.cell? ⟨g, j, none⟩ = some u := fun j u hj => by
          rw [← hcell j u hj]
          exact World.cell?_of_block (hJ.frame.block g hg (fun e => hgx (Option.some.inj e)))
        obtain ⟨v', w', hr, q1, q2, q3⟩ := run_app26 _ _ _ hop _ _ _ _ _ W f0 own0 g kl.length cap (kl.flatMap c3) f1 (flat3_len kl) hWc h1 (by omega) hJ.size
        refine ⟨v', w', .inl hr, ?_⟩
        rw [hset]
        rw [Nat.zero_add, List.nil_append] at q1
        exact hJ.app3 hx9 d0 d1 hli q1 q2 q3
    | 4, _, ho =>
      cases ho
      exact ⟨_, _, .inl (run_load28 _ _ rfl _ x8 e8 B 28 W hB'), by rw [hset]; exact hJ.load 4 hli _ (.inr (.inr (.inl ⟨rfl, rfl⟩)))⟩
    | 5, _, ho =>
      cases ho
      have d0 := hafter ⟨4, .data⟩ (Array.mem_of_getElem? (i := 0) rfl) rfl
      have f0 := eval_tmp ((hG.got 4 _ 52 rfl rfl d0).trans (by rw [hJ.v4 d0]))
      exact ⟨_, _, .inl (run_row1 _ _ rfl _ B f0 W), by rw [hset]; exact hJ.make5 hli⟩
    | 6, _, ho =>
      have hop : o.op = .call { callee := .builtin .append, args := #[.tmp 51, .tmp 53], argTypes := #[26, 26] } := by cases ho; rfl
      have d0 := hafter ⟨3, .data⟩ (by cases ho; exact Array.mem_of_getElem? (i := 0) rfl) rfl
      have d1 := hafter ⟨5, .data⟩ (by cases ho; exact Array.mem_of_getElem? (i := 1) rfl) rfl
      obtain ⟨g, p1, p2, p3, p4, p5⟩ := hJ.v5 d1 hli
      have f0 := eval_tmp (hG.got 3 _ 51 rfl rfl d0)
      have f1 := eval_tmp ((hG.got 5 _ 53 rfl rfl d1).trans (by rw [p1]))
      have own3 := hJ.v3 d0 hli
      have hWc : ∀ j u, (c3 B)[j]? = some u → W.cell? ⟨g, j, none⟩ = some u := fun j u hj => by
        obtain ⟨z0, z1, z2⟩ := cells3 p3
        match j, hj with
        | 0, hj => cases hj; exact z0
        | 1, hj => cases hj; exact z1
        | 2, hj => cases hj; exact z2
        | n + 3, hj => simp [c3] at hj
      obtain ⟨v', w', hr, q1, q2, q3⟩ := run_app26 _ _ _ hop _ _ _ _ _ W f0 own3 g 1 1 (c3 B) f1 rfl hWc hB1 (by omega) hJ.size
      refine ⟨v', w', .inl hr, ?_⟩
      rw [hset]
      exact hJ.app6 hx9 d0 d1 hli q1 q2
    | 7, _, ho =>
      cases ho
      exact ⟨_, _, .inl (run_field2 _ _ rfl _ x9 e9 W), by rw [hset]; exact hJ.load 7 hli _ (.inr (.inr (.inr ⟨rfl, rfl⟩)))⟩
    | 8, _, ho =>
      cases ho
      have d0 := hafter ⟨7, .data⟩ (Array.mem_of_getElem? (i := 0) rfl) rfl
      have d1 := hafter ⟨6, .data⟩ (Array.mem_of_getElem? (i := 1) rfl) rfl
      have f0 := eval_tmp ((hG.got 7 _ 55 rfl rfl d0).trans (by rw [hJ.v7 d0]))
      obtain ⟨ua, um, hv6⟩ := own_slice (hJ.v6 d1)
      have f1 := eval_tmp ((hG.got 6 _ 54 rfl rfl d1).trans (by rw [hv6]))
      have hb := hJ.box
      have hfz : W.frozen? ⟨x9, 2, none⟩ = false := by simp [World.frozen?, hb]
      refine ⟨undef, _, .inr ⟨run_store26 _ _ _ rfl _ x9 f0 _ _ _ f1 W _ (cells3 hb).2.2 hfz, rfl⟩, ?_⟩
      rw [hset, ← hv6]
      exact hJ.set hx9 d1 hli _
    | n + 9, h, _ => omega
  · intro l v a' W hG hJ hl
    have hl' : ∀ i, i < 9 → l.getD i false = true := fun i hi => hl i hi
    rw [got13 hs hG hl']
    exact hend v W (hJ.whole hl')
end
end Go.Proofs.Ytaeiikielelicaa.Pt
