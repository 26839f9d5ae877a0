/- A walk through triples, breadth first: the plain law. -/
import Derived.Test.YtaeiikielelicaaPtAgain
set_option linter.unusedVariables false
set_option linter.unusedSimpArgs false
set_option linter.unusedSectionVars false
set_option linter.deprecated false
namespace Go.Proofs.Ytaeiikielelicaa.Pt
open Go.RowKit Go.Proofs Go.Am
open Pm
noncomputable section
/-- one step by a predicate. -/
def stepS (G : List T3) (p : ByteArray) (q : Pr) : Prop := ∃ t ∈ G, t.2.1.s = p ∧ q = (t.1, t.2.2)
/-- what holds of the row of terms, of the triples seen, when i terms are done, and k triples at the next one. -/
structure Bfs (G : List T3) (p : ByteArray) (a b : Tm) (Q : List Tm) (sn : List Bool) (i k : Nat) : Prop where
  len : sn.length = G.length
  cnt : Q.length = 1 + sn.count true
  head : Q[0]? = some a
  reach : ∀ (m : Nat) y, 0 < m → Q[m]? = some y → Plus (stepS G p) a y
  mark : ∀ (j : Nat) t, sn[j]? = some true → G[j]? = some t → t.2.2 ∈ Q ∧ t.2.2 ≠ b
  done : ∀ (m : Nat) x, Q[m]? = some x → ∀ (j : Nat) t, G[j]? = some t → t.2.1.s = p → t.1 = x → (m < i ∨ (m = i ∧ j < k)) → sn[j]? = some true
theorem Bfs.start (G : List T3) (p : ByteArray) (a b : Tm) : Bfs G p a b [a] (List.replicate G.length false) 0 0 := by
  refine ⟨by simp, ?_, rfl, fun m y hm h => ?_, fun j t h => ?_, fun m x _ j t _ _ _ h => by omega⟩
  · rw [List.count_replicate]; rfl
  · have := (List.getElem?_eq_some_iff.1 h).1
    simp at this
    omega
  · have := List.mem_of_getElem? h
    rw [List.mem_replicate] at this
    exact absurd this.2 (by decide)
theorem Bfs.skip {G : List T3} {p : ByteArray} {a b : Tm} {Q : List Tm} {sn : List Bool} {i k : Nat} (h : Bfs G p a b Q sn i k) {t : T3} {x : Tm} (ht : G[k]? = some t) (hx : Q[i]? = some x) (hs : sn[k]? = some true ∨ t.2.1.s ≠ p ∨ t.1 ≠ x) : Bfs G p a b Q sn i (k + 1) := by
  refine ⟨h.len, h.cnt, h.head, h.reach, h.mark, fun m y hy j u hu h1 h2 h3 => ?_⟩
  by_cases e : m = i ∧ j = k
  · obtain ⟨rfl, rfl⟩ := e
    rw [ht] at hu; cases hu
    rw [hx] at hy; cases hy
    exact hs.elim id (fun h => h.elim (fun h => absurd h1 h) (fun h => absurd h2 h))
  · exact h.done m y hy j u hu h1 h2 (by omega)
theorem Bfs.found {G : List T3} {p : ByteArray} {a b : Tm} {Q : List Tm} {sn : List Bool} {i k : Nat} (h : Bfs G p a b Q sn i k) {t : T3} {x : Tm} (ht : G[k]? = some t) (hx : Q[i]? = some x) (h1 : t.2.1.s = p) (h2 : t.1 = x) : Plus (stepS G p) a t.2.2 := by
  have hs : stepS G p (x, t.2.2) := ⟨t, List.mem_of_getElem? ht, h1, by rw [h2]⟩
  by_cases h0 : i = 0
  · subst h0
    rw [h.head] at hx; cases hx
    exact .one hs
  · exact .more (h.reach i x (by omega) hx) hs
theorem count_set {l : List Bool} {k : Nat} (h : l[k]? = some false) : (l.set k true).count true = l.count true + 1 := by
  induction l generalizing k with
  | nil => simp at h
  | cons b l ih =>
    cases k with
    | zero =>
      obtain rfl : b = false := by simpa using h
      simp
    | succ k =>
      have := ih (k := k) (by simpa using h)
      rw [List.set_cons_succ, List.count_cons, List.count_cons, this]
      omega
theorem Bfs.put {G : List T3} {p : ByteArray} {a b : Tm} {Q : List Tm} {sn : List Bool} {i k : Nat} (h : Bfs G p a b Q sn i k) {t : T3} {x : Tm} (ht : G[k]? = some t) (hx : Q[i]? = some x) (h0 : sn[k]? = some false) (h1 : t.2.1.s = p) (h2 : t.1 = x) (h3 : t.2.2 ≠ b) : Bfs G p a b (Q ++ [t.2.2]) (sn.set k true) i (k + 1) := by
  have hi := (List.getElem?_eq_some_iff.1 hx).1
  have hk := (List.getElem?_eq_some_iff.1 h0).1
  have hset : ∀ j, sn[j]? = some true → (sn.set k true)[j]? = some true := fun j hj => by
    rw [List.getElem?_set]
    split
    · simp_all
    · exact hj
  refine ⟨by rw [List.length_set]; exact h.len, ?_, ?_, fun m y hm hy => ?_, fun j u hj hu => ?_, fun m y hy j u hu e1 e2 e3 => ?_⟩
  · rw [List.length_append, count_set h0, h.cnt]; simp; omega
  · rw [List.getElem?_append_left (by omega)]; exact h.head
  · by_cases hl : m < Q.length
    · rw [List.getElem?_append_left hl] at hy
      exact h.reach m y hm hy
    · rw [List.getElem?_append_right (by omega)] at hy
      obtain rfl : y = t.2.2 := by
        have := List.mem_of_getElem? hy
        exact List.mem_singleton.1 this
      exact h.found ht hx h1 h2
  · rw [List.getElem?_set] at hj
    by_cases e : k = j
    · subst e
      rw [ht] at hu; cases hu
      exact ⟨by simp, h3⟩
    · rw [if_neg e] at hj
      exact ⟨List.mem_append_left _ (h.mark j u hj hu).1, (h.mark j u hj hu).2⟩
  · by_cases e : m = i ∧ j = k
    · obtain ⟨rfl, rfl⟩ := e
      rw [List.getElem?_set, if_pos rfl, if_pos hk]
    · by_cases hl : m < Q.length
      · rw [List.getElem?_append_left hl] at hy
        exact hset j (h.done m y hy j u hu e1 e2 (by omega))
      · omega
theorem Bfs.next {G : List T3} {p : ByteArray} {a b : Tm} {Q : List Tm} {sn : List Bool} {i k : Nat} (h : Bfs G p a b Q sn i k) (hk : G.length ≤ k) : Bfs G p a b Q sn (i + 1) 0 := by
  refine ⟨h.len, h.cnt, h.head, h.reach, h.mark, fun m y hy j u hu e1 e2 e3 => ?_⟩
  have := (List.getElem?_eq_some_iff.1 hu).1
  exact h.done m y hy j u hu e1 e2 (by omega)
theorem Bfs.short {G : List T3} {p : ByteArray} {a b : Tm} {Q : List Tm} {sn : List Bool} {i k : Nat} (h : Bfs G p a b Q sn i k) : Q.length ≤ G.length + 1 := by
  have := List.count_le_length (a := true) (l := sn)
  rw [h.cnt, ← h.len]
  omega
theorem Bfs.none {G : List T3} {p : ByteArray} {a b : Tm} {Q : List Tm} {sn : List Bool} {i k : Nat} (h : Bfs G p a b Q sn i k) (hi : Q.length ≤ i) : ¬ Plus (stepS G p) a b := by
  have key : ∀ y, Plus (stepS G p) a y → y ∈ Q ∧ y ≠ b := fun y hp => by
    have edge : ∀ x y, x ∈ Q → stepS G p (x, y) → y ∈ Q ∧ y ≠ b := fun x y hx ⟨t, ht, h1, h2⟩ => by
      obtain ⟨m, hm⟩ := List.getElem?_of_mem hx
      obtain ⟨j, hj⟩ := List.getElem?_of_mem ht
      obtain ⟨rfl, rfl⟩ := Prod.mk.inj h2
      have hml := (List.getElem?_eq_some_iff.1 hm).1
      exact h.mark j t (h.done m _ hm j t hj h1 rfl (.inl (by omega))) hj
    induction hp with
    | one hs => exact edge _ _ (List.mem_of_getElem? h.head) hs
    | more _ hs ih => exact edge _ _ ih.1 hs
  exact fun hp => (key b hp).2 rfl
end
end Go.Proofs.Ytaeiikielelicaa.Pt
