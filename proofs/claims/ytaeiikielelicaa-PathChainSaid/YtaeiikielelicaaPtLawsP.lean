/- Plain laws of ways. -/
import Derived.Test.YtaeiikielelicaaPtOf1
set_option linter.unusedVariables false
set_option linter.unusedSimpArgs false
set_option linter.unusedSectionVars false
set_option linter.deprecated false
namespace Go.Proofs.Ytaeiikielelicaa.Pt
open Go.RowKit Go.Proofs Go.Am
open Pm
noncomputable section
theorem Plus.trans {A : Pr → Prop} {x y z : Tm} (h : Plus A x y) (h2 : Plus A y z) : Plus A x z := by
  induction h2 with
  | one h2 => exact .more h h2
  | more _ h3 ih => exact .more ih h3
theorem rel_inv (G : List T3) (s : ByteArray) (t : Wy) (p : Pr) : rel G (.mk 2 s [t]) p ↔ rel G t (p.2, p.1) := by
  rw [rel_eq]
  simp [relOf, aloneP]
theorem rel_star (G : List T3) (s : ByteArray) (t : Wy) (p : Pr) : rel G (.mk 5 s [t]) p ↔ plusP (rel G t) p ∨ sameL G p := by
  rw [rel_eq]
  simp [relOf, aloneP]
theorem rel_plus (G : List T3) (s : ByteArray) (t : Wy) (p : Pr) : rel G (.mk 6 s [t]) p ↔ plusP (rel G t) p := by
  rw [rel_eq]
  simp [relOf, aloneP]
theorem rel_opt (G : List T3) (s : ByteArray) (t : Wy) (p : Pr) : rel G (.mk 7 s [t]) p ↔ rel G t p ∨ sameL G p := by
  rw [rel_eq]
  simp [relOf, aloneP]
theorem rel_seq2 (G : List T3) (s : ByteArray) (a b : Wy) (p : Pr) : rel G (.mk 3 s [a, b]) p ↔ behindP (rel G a) (rel G b) p := by
  rw [rel_eq]
  simp [relOf, joinL]
theorem rel_seq3 (G : List T3) (s : ByteArray) (a b c : Wy) (p : Pr) : rel G (.mk 3 s [a, b, c]) p ↔ behindP (behindP (rel G a) (rel G b)) (rel G c) p := by
  rw [rel_eq]
  simp [relOf, joinL]
theorem rel_alt3 (G : List T3) (s : ByteArray) (a b c : Wy) (p : Pr) : rel G (.mk 4 s [a, b, c]) p ↔ (rel G a p ∨ rel G b p) ∨ rel G c p := by
  rw [rel_eq]
  simp [relOf, joinL, orP]
theorem law_inv (G : List T3) (t : Wy) (p : Pr) : rel G (.mk 2 ⟨#[]⟩ [.mk 2 ⟨#[]⟩ [t]]) p ↔ rel G t p := by rw [rel_inv, rel_inv]
theorem law_star (G : List T3) (t : Wy) (p : Pr) : rel G (.mk 5 ⟨#[]⟩ [.mk 5 ⟨#[]⟩ [t]]) p ↔ rel G (.mk 5 ⟨#[]⟩ [t]) p := by
  rw [rel_star]
  constructor
  · rintro (h | h)
    · obtain ⟨x, y⟩ := p
      have : Plus (rel G (.mk 5 ⟨#[]⟩ [t])) x y := h
      clear h
      induction this with
      | one h => exact h
      | @more y z h1 h2 ih =>
        rw [rel_star] at ih h2 ⊢
        rcases ih with ih | ih
        · rcases h2 with h2 | h2
          · exact .inl (Plus.trans ih h2)
          · obtain ⟨e, -⟩ := h2
            dsimp only at e
            subst e
            exact .inl ih
        · obtain ⟨e, -⟩ := ih
          dsimp only at e
          subst e
          exact h2
    · rw [rel_star]; exact .inr h
  · exact fun h => .inl (.one h)
theorem law_opt (G : List T3) (t : Wy) (p : Pr) : rel G (.mk 7 ⟨#[]⟩ [.mk 6 ⟨#[]⟩ [t]]) p ↔ rel G (.mk 5 ⟨#[]⟩ [t]) p := by rw [rel_opt, rel_plus, rel_star]
theorem law_left (G : List T3) (a b c : Wy) (p : Pr) : rel G (.mk 3 ⟨#[]⟩ [a, b, c]) p ↔ rel G (.mk 3 ⟨#[]⟩ [.mk 3 ⟨#[]⟩ [a, b], c]) p := by
  rw [rel_seq3, rel_seq2]
  constructor
  · exact fun ⟨y, h1, h2⟩ => ⟨y, (rel_seq2 G _ a b _).2 h1, h2⟩
  · exact fun ⟨y, h1, h2⟩ => ⟨y, (rel_seq2 G _ a b _).1 h1, h2⟩
theorem law_right (G : List T3) (a b c : Wy) (p : Pr) : rel G (.mk 3 ⟨#[]⟩ [a, b, c]) p ↔ rel G (.mk 3 ⟨#[]⟩ [a, .mk 3 ⟨#[]⟩ [b, c]]) p := by
  rw [rel_seq3, rel_seq2]
  constructor
  · exact fun ⟨y, ⟨z, h1, h2⟩, h3⟩ => ⟨z, h1, (rel_seq2 G _ b c _).2 ⟨y, h2, h3⟩⟩
  · rintro ⟨z, h1, h2⟩
    obtain ⟨y, h2, h3⟩ := (rel_seq2 G _ b c _).1 h2
    exact ⟨y, ⟨z, h1, h2⟩, h3⟩
theorem law_alt (G : List T3) (a b c : Wy) (p : Pr) : rel G (.mk 4 ⟨#[]⟩ [a, b, c]) p ↔ rel G (.mk 4 ⟨#[]⟩ [c, a, b]) p := by
  rw [rel_alt3, rel_alt3]
  constructor
  · rintro ((h | h) | h)
    · exact .inl (.inr h)
    · exact .inr h
    · exact .inl (.inl h)
  · rintro ((h | h) | h)
    · exact .inr h
    · exact .inl (.inl h)
    · exact .inl (.inr h)
/-- worlds made by one making after another. -/
def allocL (w : World) (l : List Obj) : World := l.foldl World.alloc w
theorem allocL_size : ∀ (l : List Obj) (w : World), (allocL w l).heap.size = w.heap.size + l.length
  | [], w => rfl
  | o :: l, w => by
    show (allocL (w.alloc o) l).heap.size = _
    rw [allocL_size l, World.size_alloc, List.length_cons]
    omega
theorem allocL_below : ∀ (l : List Obj) (w : World), Below w.heap.size w (allocL w l)
  | [], w => Below.refl _ w
  | o :: l, w => by
    show Below _ _ (allocL (w.alloc o) l)
    have h1 := allocL_below l (w.alloc o)
    exact ((Below.refl w.heap.size w).alloc (Nat.le_refl _) o).trans (h1.mono (by simp))
theorem allocL_heap : ∀ (l : List Obj) (w : World) (k : Nat) (o : Obj), l[k]? = some o → (allocL w l).heap[w.heap.size + k]? = some o
  | [], w, k, o, h => by simp at h
  | x :: l, w, 0, o, h => by
    obtain rfl : x = o := by simpa using h
    show (allocL (w.alloc x) l).heap[w.heap.size]? = _
    exact ((allocL_below l (w.alloc x)).block w.heap.size (by simp)).trans (World.alloc_heap_new w x)
  | x :: l, w, k + 1, o, h => by
    show (allocL (w.alloc x) l).heap[w.heap.size + (k + 1)]? = _
    have := allocL_heap l (w.alloc x) k o (by simpa using h)
    rw [World.size_alloc] at this
    rw [show w.heap.size + (k + 1) = w.heap.size + 1 + k by omega]
    exact this
end
end Go.Proofs.Ytaeiikielelicaa.Pt
