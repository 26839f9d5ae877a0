/- The maps of path: what lies behind. -/
import Derived.Test.YtaeiikielelicaaPtEntry
set_option linter.unusedVariables false
set_option linter.unusedSimpArgs false
set_option linter.unusedSectionVars false
set_option linter.deprecated false
namespace Go.Proofs.Ytaeiikielelicaa.Pt
open Go.RowKit Go.Proofs Go.Am
open Pm
set_option maxRecDepth 1000000
set_option linter.unusedVariables false
set_option linter.unusedSimpArgs false
noncomputable section
def cTs (l : List Tm) : List Value := l.flatMap cT
theorem cTs_len (l : List Tm) : (cTs l).length = l.length * 4 := by
  induction l with
  | nil => rfl
  | cons a l ih =>
    show (cT a ++ cTs l).length = _
    rw [List.length_append, ih]
    show 4 + l.length * 4 = (l.length + 1) * 4
    omega
theorem cTs_snoc (l : List Tm) (t : Tm) : cTs (l ++ [t]) = cTs l ++ cT t := by simp [cTs]
/-- rows of terms by terms: block b is a map of them; no two lie in one block. -/
structure Groups (w : World) (B b : Nat) (l : List (Tm × Value)) (F : Tm → List Tm) : Prop where
  ents : Ents encT w b l
  rows : ∀ q ∈ l, w.ownsRow B 41 4 q.2 (F q.1).length (cTs (F q.1))
  apart : ∀ q ∈ l, ∀ q' ∈ l, q.1 ≠ q'.1 → ∀ k, q.2.ownBlock = some k → q'.2.ownBlock ≠ some k
  rest : ∀ t, t ∉ l.map Prod.fst → F t = []
theorem own_keep {w w' : World} {B e size n : Nat} {v : Value} {xs : List Value} (h : w.ownsRow B e size v n xs) (hb : ∀ k, v.ownBlock = some k → w'.heap[k]? = w.heap[k]?) : w'.ownsRow B e size v n xs := by
  refine ⟨h.1, ?_⟩
  rcases h.2 with hn | ⟨g, cap, cur, rfl, hg, hgg, rest⟩
  · exact .inl hn
  · exact .inr ⟨g, cap, cur, rfl, hg, (hb g rfl).trans hgg, rest⟩
theorem own_cellsB {w : World} {B e size n : Nat} {v : Value} {xs : List Value} (h : w.ownsRow B e size v n xs) {k : Nat} (hk : v.ownBlock = some k) : B ≤ k ∧ k < w.heap.size ∧ ∃ c, w.heap[k]? = some (.cells c e) := by
  rcases h.2 with ⟨rfl, _⟩ | ⟨g, cap, cur, rfl, hg, hgg, rest⟩
  · cases hk
  · simp only [Value.ownBlock, Option.some.injEq] at hk
    subst hk
    exact ⟨hg, (Array.getElem?_eq_some_iff.1 hgg).1, _, hgg⟩
theorem Groups.keep {w w' : World} {B b : Nat} {l : List (Tm × Value)} {F : Tm → List Tm} (h : Groups w B b l F) (h1 : w'.heap[b]? = w.heap[b]?) (h2 : ∀ k, (∃ q ∈ l, q.2.ownBlock = some k) → w'.heap[k]? = w.heap[k]?) : Groups w' B b l F :=
  ⟨h.ents.keep h1, fun q hq => own_keep (h.rows q hq) (fun k hk => h2 k ⟨q, hq, hk⟩), h.apart, h.rest⟩
theorem Groups.made (w : World) (B : Nat) : Groups (w.alloc (.map #[] 0)) B w.heap.size [] (fun _ => []) :=
  ⟨Ents.made encT w, (fun q h => by cases h), (fun q h => by cases h), fun _ _ => rfl⟩
theorem und91 : Try.prog.underlying 91 = some (.map 41 71) := by kernel_rfl
theorem make91 (W : World) : (Instr.makeMap 91 none).run Try.prog W = .ok (.map (some W.heap.size)) (W.alloc (.map #[] 0)) := by kernel_rfl
theorem zero71 (W : World) : (zeroValue 71).run Try.prog W = .ok (.slice none 0 0) W := by kernel_rfl
theorem val_mem {x : Tm} {l : List (Tm × Value)} : ∀ {v : Value}, Pm.val? x l = some v → (x, v) ∈ l := by
  induction l with
  | nil => intro v h; cases h
  | cons p l ih =>
    intro v h
    unfold Pm.val? at h
    rw [List.find?_cons] at h
    by_cases hx : x = p.1
    · simp only [hx, decide_true, Option.map_some, Option.some.injEq] at h
      subst h
      rw [hx]
      exact List.mem_cons_self
    · simp only [hx, decide_false] at h
      exact List.mem_cons_of_mem _ (ih h)
theorem val_none {x : Tm} {l : List (Tm × Value)} (h : Pm.val? x l = none) : x ∉ l.map Prod.fst := by
  intro hm
  unfold Pm.val? at h
  rw [Option.map_eq_none_iff, List.find?_eq_none] at h
  obtain ⟨q, hq, rfl⟩ := List.mem_map.1 hm
  exact h q hq (by simp)
theorem mem_putT {x : Tm} {v : Value} {l : List (Tm × Value)} (hn : (l.map Prod.fst).Nodup) {q : Tm × Value} (h : q ∈ put x v l) : q = (x, v) ∨ (q ∈ l ∧ q.1 ≠ x) := by
  induction l with
  | nil => rw [put, List.mem_singleton] at h; exact .inl h
  | cons p l ih =>
    rw [List.map_cons, List.nodup_cons] at hn
    unfold put at h
    by_cases hx : x = p.1
    · rw [if_pos hx, List.mem_cons] at h
      rcases h with rfl | h
      · rw [← hx]; exact .inl rfl
      · exact .inr ⟨List.mem_cons_of_mem _ h, fun e => hn.1 (by rw [← hx, ← e]; exact List.mem_map_of_mem h)⟩
    · rw [if_neg hx, List.mem_cons] at h
      rcases h with rfl | h
      · exact .inr ⟨List.mem_cons_self, fun e => hx e.symm⟩
      · rcases ih hn.2 h with h | ⟨h, h2⟩
        · exact .inl h
        · exact .inr ⟨List.mem_cons_of_mem _ h, h2⟩
theorem val_in {x : Tm} {l : List (Tm × Value)} (h : x ∉ l.map Prod.fst) : Pm.val? x l = none := by
  cases hv : Pm.val? x l with
  | none => rfl
  | some v => exact absurd (List.mem_map_of_mem (f := Prod.fst) (val_mem hv)) h
/-- the row of a term, or none yet. -/
theorem Groups.row {w : World} {B b : Nat} {l : List (Tm × Value)} {F : Tm → List Tm} (h : Groups w B b l F) (x : Tm) :
    w.ownsRow B 41 4 ((Pm.val? x l).getD (.slice none 0 0)) (F x).length (cTs (F x)) ∧
    ∀ q ∈ l, q.1 ≠ x → ∀ k, q.2.ownBlock = some k → ((Pm.val? x l).getD (.slice none 0 0)).ownBlock ≠ some k := by
  cases hv : Pm.val? x l with
  | none =>
    rw [h.rest x (val_none hv)]
    exact ⟨World.ownsRow_nil _ _ _ _, fun q _ _ k _ e => by cases e⟩
  | some v =>
    have hm := val_mem hv
    exact ⟨h.rows _ hm, fun q hq hne k hk e => h.apart _ hm q hq (fun e' => hne e'.symm) k e hk⟩
theorem Groups.grow {w w5 w6 : World} {B b : Nat} {l : List (Tm × Value)} {F : Tm → List Tm} (h : Groups w B b l F) {x y : Tm} {w1 : World} {v5 : Value}
    (hg1 : w.grownBy w1 (some b)) (hs1 : w1.heap.size = w.heap.size) (hown5 : w5.ownsRow B 41 4 v5 ((F x).length + 1) (cTs (F x) ++ cT y)) (hgrow5 : w1.grownBy w5 ((Pm.val? x l).getD (.slice none 0 0)).ownBlock)
    (hat5 : v5.ownBlock = ((Pm.val? x l).getD (.slice none 0 0)).ownBlock ∨ v5.ownBlock = some w1.heap.size) (he6 : Ents encT w6 b (put x v5 (put x ((Pm.val? x l).getD (.slice none 0 0)) l))) (hg6 : w5.grownBy w6 (some b)) :
    Groups w6 B b (put x v5 (put x ((Pm.val? x l).getD (.slice none 0 0)) l)) (fun t => if t = x then F x ++ [y] else F t) := by
  obtain ⟨hrow, hap⟩ := h.row x
  have hnd : (l.map Prod.fst).Nodup := by
    obtain ⟨es, clock, _, hf⟩ := h.ents
    exact hf.apart
  have hbm : ∃ es clock, w.heap[b]? = some (.map es clock) := by
    obtain ⟨es, clock, hb, _⟩ := h.ents
    exact ⟨es, clock, hb⟩
  have hblt := h.ents.lt
  have hnb : ∀ {W : World} {v : Value} {n : Nat} {xs : List Value}, (∃ es clock, W.heap[b]? = some (.map es clock)) → W.ownsRow B 41 4 v n xs → v.ownBlock ≠ some b := fun hm ho e => by
    obtain ⟨_, _, c, hc⟩ := own_cellsB ho e
    obtain ⟨es, clock, hm⟩ := hm
    rw [hm] at hc
    cases hc
  have hbm6 : ∃ es clock, w6.heap[b]? = some (.map es clock) := by
    obtain ⟨es, clock, hb, _⟩ := he6
    exact ⟨es, clock, hb⟩
  have hmem : ∀ q ∈ put x v5 (put x ((Pm.val? x l).getD (.slice none 0 0)) l), q = (x, v5) ∨ (q ∈ l ∧ q.1 ≠ x) := fun q hq => by
    rcases mem_putT (put_apart _ _ hnd) hq with h | ⟨h, hne⟩
    · exact .inl h
    · rcases mem_putT hnd h with h | h
      · exact absurd (congrArg Prod.fst h) hne
      · exact .inr h
  have hold : ∀ q ∈ l, q.1 ≠ x → ∀ k, q.2.ownBlock = some k → w6.heap[k]? = w.heap[k]? ∧ k < w.heap.size := fun q hq hne k hk => by
    obtain ⟨_, hlt, _⟩ := own_cellsB (h.rows q hq) hk
    have hkb : k ≠ b := fun e => hnb hbm (h.rows q hq) (by rw [hk, e])
    have h1 := hg1.block k hlt (fun e => hkb (Option.some.inj e))
    have h2 := hgrow5.block k (by omega) (fun e => hap q hq hne k hk e.symm)
    have h3 := hg6.block k (by have := hgrow5.size; omega) (fun e => hkb (Option.some.inj e))
    exact ⟨h3.trans (h2.trans h1), hlt⟩
  refine ⟨he6, fun q hq => ?_, fun q hq q' hq' hne k hk => ?_, fun t ht => ?_⟩
  · rcases hmem q hq with rfl | ⟨hq, hne⟩
    · simp only [if_true]
      rw [List.length_append, cTs_snoc]
      refine own_keep hown5 fun k hk => ?_
      obtain ⟨_, hlt, c, hc⟩ := own_cellsB hown5 hk
      refine hg6.block k hlt fun e => ?_
      cases e
      rcases hat5 with e | e
      · rw [e] at hk
        exact hnb hbm hrow hk
      · rw [e] at hk
        have := Option.some.inj hk
        omega
    · simp only [if_neg hne]
      exact own_keep (h.rows q hq) fun k hk => (hold q hq hne k hk).1
  · rcases hmem q hq with rfl | ⟨hq, hqx⟩ <;> rcases hmem q' hq' with rfl | ⟨hq', hqx'⟩
    · exact absurd rfl hne
    · intro e
      rcases hat5 with h5 | h5
      · exact hap q' hq' hqx' k e (by rw [← h5]; exact hk)
      · rw [h5] at hk
        have := (hold q' hq' hqx' k e).2
        have := Option.some.inj hk
        omega
    · intro e
      rcases hat5 with h5 | h5
      · exact hap q hq hqx k hk (by rw [← h5]; exact e)
      · rw [h5] at e
        have := (hold q hq hqx k hk).2
        have := Option.some.inj e
        omega
    · exact h.apart q hq q' hq' hne k hk
  · have hx : t ≠ x := fun e => ht (by rw [e, put_keys]; split <;> simp_all)
    rw [if_neg hx]
    refine h.rest t fun hm => ht ?_
    rw [put_keys]
    have : t ∈ (put x ((Pm.val? x l).getD (.slice none 0 0)) l).map Prod.fst := by
      rw [put_keys]
      split
      · exact hm
      · exact List.mem_append_left _ hm
    split
    · exact this
    · exact List.mem_append_left _ this
end
end Go.Proofs.Ytaeiikielelicaa.Pt
