/- Maps of any keys that can be held against one another: what a map bears as a list; lookups, stores, ranges. -/
import Derived.Maps.RangeRun
import Derived.Maps.RangeWalk
import Derived.Maps.OwnSet
import Derived.Maps.Own
import Derived.WalkKit
import Derived.Below
set_option linter.unusedVariables false
set_option linter.unusedSimpArgs false
set_option linter.unusedSectionVars false
set_option linter.deprecated false
namespace Go.Proofs.Ytaeiikielelicaa.Pm
open Go.RowKit Go.Proofs
open Go.ChangeMaps (setBlock)
noncomputable section
/-- how keys of a map's type are written. -/
structure KeyEnc {α : Type} [DecidableEq α] (P : Program) (kt : TypeId) (enc : α → Value) : Prop where
  und : ∃ d, P.underlying kt = some d ∧ ∀ x y, Instr.sameNow d (enc x) (enc y) = none
  chk : ∀ (b : Bool) (x : α) (w : World), (Instr.checkKey b 10000 kt (enc x)).run P w = .ok () w
  eq : ∀ x y (w : World), (Op.equal kt (enc x) (enc y)).run P w = .ok (decide (x = y)) w
  same : ∀ x, Instr.sameBits 10000 (enc x) (enc x) = true
  inj : ∀ x y, enc x = enc y → x = y
section
variable {α : Type} [DecidableEq α] {P : Program} {kt : TypeId} {enc : α → Value}
def encE (enc : α → Value) (p : α × Value) : Value × Value := (enc p.1, p.2)
def kv (e : MapEntry) : Value × Value := (e.key, e.val)
/-- a key's place in a list, and what stands there. -/
def at? (x : α) : List (α × Value) → Nat → Option (Nat × Value)
  | [], _ => none
  | p :: l, i => if x = p.1 then some (i, p.2) else at? x l (i + 1)
/-- a list with a key's value laid in. -/
def put (x : α) (v : Value) : List (α × Value) → List (α × Value)
  | [] => [(x, v)]
  | p :: l => if x = p.1 then (p.1, v) :: l else p :: put x v l
def val? (x : α) (l : List (α × Value)) : Option Value := (l.find? fun p => decide (x = p.1)).map Prod.snd
/-- block b is a map that bears these. -/
structure Fits (enc : α → Value) (es : Array MapEntry) (clock : Nat) (l : List (α × Value)) : Prop where
  kv : es.toList.map kv = l.map (encE enc)
  apart : (l.map Prod.fst).Nodup
  born : (es.toList.map (·.born)).Nodup
  old : ∀ e ∈ es.toList, e.born < clock
def Ents (enc : α → Value) (w : World) (b : Nat) (l : List (α × Value)) : Prop := ∃ es clock, w.heap[b]? = some (.map es clock) ∧ Fits enc es clock l
theorem Ents.made (enc : α → Value) (w : World) : Ents enc (w.alloc (.map #[] 0)) w.heap.size [] :=
  ⟨#[], 0, heap_alloc_new w _, ⟨rfl, List.nodup_nil, List.nodup_nil, fun e h => by simp at h⟩⟩
theorem Ents.lt {w : World} {b : Nat} {l : List (α × Value)} (h : Ents enc w b l) : b < w.heap.size := by
  obtain ⟨es, clock, hb, _⟩ := h
  exact (Array.getElem?_eq_some_iff.1 hb).1
theorem Ents.keep {w w' : World} {b : Nat} {l : List (α × Value)} (h : Ents enc w b l) (hb : w'.heap[b]? = w.heap[b]?) : Ents enc w' b l := by
  obtain ⟨es, clock, h1, h2⟩ := h
  exact ⟨es, clock, hb.trans h1, h2⟩
theorem Ents.below {w w' : World} {b : Nat} {l : List (α × Value)} (h : Ents enc w b l) (hb : Below w.heap.size w w') : Ents enc w' b l := h.keep (hb.block b h.lt)
theorem find_run (K : KeyEnc P kt enc) (x : α) (w : World) : ∀ (es : List MapEntry) (l : List (α × Value)) (i : Nat), es.map kv = l.map (encE enc) → (Instr.findAsking kt (enc x) es i).run P w = .ok (at? x l i) w := by
  intro es
  induction es with
  | nil =>
    intro l i h
    cases l with
    | nil => rfl
    | cons p l => cases h
  | cons e es ih =>
    intro l i h
    cases l with
    | nil => cases h
    | cons p l =>
      simp only [List.map_cons, List.cons.injEq] at h
      have hk : e.key = enc p.1 := congrArg Prod.fst h.1
      have hv : e.val = p.2 := congrArg Prod.snd h.1
      unfold Instr.findAsking at?
      rw [hk]
      simp only [Sem.run_bind, K.eq, Result.andThen]
      by_cases hx : x = p.1
      · simp [hx, hv, Sem.run]
      · simp only [hx, decide_false, Bool.false_eq_true, if_false]
        exact ih l (i + 1) h.2
theorem key_run (K : KeyEnc P kt enc) (x : α) (w : World) {es : Array MapEntry} {clock : Nat} {l : List (α × Value)} (h : Fits enc es clock l) : (Instr.findKey kt (enc x) es.toList).run P w = .ok (at? x l 0) w := by
  obtain ⟨d, hd, hn⟩ := K.und
  unfold Instr.findKey
  simp only [Sem.run_bind, run_underlying hd, Result.andThen]
  have hf := find_run K x w es.toList l 0 h.kv
  cases hes : es.toList with
  | nil =>
    rw [hes] at hf
    simp only [Instr.findNow]
    rw [← hf]
    rfl
  | cons e r =>
    have hk := h.kv
    rw [hes] at hk hf
    cases l with
    | nil => cases hk
    | cons p l =>
      simp only [List.map_cons, List.cons.injEq] at hk
      have hke : e.key = enc p.1 := congrArg Prod.fst hk.1
      simp only [Instr.findNow, hke, hn]
      exact hf
theorem at_val (x : α) : ∀ (l : List (α × Value)) (i : Nat), (at? x l i).map Prod.snd = val? x l := by
  intro l
  induction l with
  | nil => intro i; rfl
  | cons p l ih =>
    intro i
    unfold at? val?
    by_cases h : x = p.1
    · simp [h]
    · simp only [h, if_false, List.find?_cons, decide_false]
      exact ih (i + 1)
theorem at_put (x : α) (v : Value) : ∀ (l : List (α × Value)) (i : Nat), put x v l = match at? x l i with
    | some (j, _) => l.modify (j - i) fun p => (p.1, v)
    | none => l ++ [(x, v)] := by
  intro l
  induction l with
  | nil => intro i; rfl
  | cons p l ih =>
    intro i
    unfold put at?
    by_cases h : x = p.1
    · simp [h]
    · simp only [h, if_false]
      rw [ih (i + 1)]
      cases ha : at? x l (i + 1) with
      | none => rfl
      | some r =>
        obtain ⟨j, u⟩ := r
        have hj : i + 1 ≤ j := by
          clear ih
          have : ∀ (l : List (α × Value)) (k : Nat), at? x l k = some (j, u) → k ≤ j := by
            intro l
            induction l with
            | nil => intro k hk; cases hk
            | cons q l ih =>
              intro k hk
              unfold at? at hk
              split at hk
              · cases hk; exact Nat.le_refl _
              · have := ih _ hk; omega
          exact this _ _ ha
        dsimp only
        rw [show j - i = (j - (i + 1)) + 1 by omega, List.modify_succ_cons]
theorem at_lt (x : α) : ∀ (l : List (α × Value)) (i j : Nat) (u : Value), at? x l i = some (j, u) → i ≤ j ∧ l[j - i]? = some (x, u) := by
  intro l
  induction l with
  | nil => intro i j u h; cases h
  | cons p l ih =>
    intro i j u h
    unfold at? at h
    split at h
    · rename_i hx
      cases h
      subst hx
      exact ⟨Nat.le_refl _, by simp⟩
    · obtain ⟨h1, h2⟩ := ih _ _ _ h
      exact ⟨by omega, by rw [show j - i = (j - (i + 1)) + 1 by omega, List.getElem?_cons_succ]; exact h2⟩
theorem put_keys (x : α) (v : Value) : ∀ l : List (α × Value), (put x v l).map Prod.fst = if x ∈ l.map Prod.fst then l.map Prod.fst else l.map Prod.fst ++ [x] := by
  intro l
  induction l with
  | nil => rfl
  | cons p l ih =>
    unfold put
    by_cases h : x = p.1
    · simp [h]
    · simp only [h, if_false, List.map_cons, ih, List.mem_cons, false_or]
      split <;> rfl
theorem put_apart (x : α) (v : Value) {l : List (α × Value)} (h : (l.map Prod.fst).Nodup) : ((put x v l).map Prod.fst).Nodup := by
  rw [put_keys]
  split
  · exact h
  · rename_i hx
    rw [List.nodup_append]
    exact ⟨h, by simp, by intro a ha b hb; rw [List.mem_singleton.1 hb]; intro e; subst e; exact hx ha⟩
theorem lookup_run (K : KeyEnc P kt enc) {mt et : TypeId} (ht : P.underlying mt = some (.map kt et)) {w : World} {b : Nat} {l : List (α × Value)} (h : Ents enc w b l) (x : α) {z : Value} (hz : (zeroValue et).run P w = .ok z w) (c : Bool) :
    (Instr.lookup mt (.map (some b)) (enc x) c).run P w = .ok (if c then .tuple #[(val? x l).getD z, .bool (val? x l).isSome] else (val? x l).getD z) w := by
  obtain ⟨es, clock, hb, hf⟩ := h
  have h1 := key_run K x w hf
  have h2 := at_val x l 0
  unfold Instr.lookup
  simp only [Sem.run_bind, run_underlying ht, Result.andThen, getObj, Sem.run, hb, K.chk, h1]
  cases ha : at? x l 0 with
  | none =>
    rw [ha] at h2
    rw [← h2]
    rw [ha] at h1
    cases c <;> simp [Sem.run_bind, hz, Result.andThen, h1]
  | some r =>
    obtain ⟨j, u⟩ := r
    rw [ha] at h2
    rw [← h2]
    rw [ha] at h1
    cases c <;> simp [Sem.run_bind, Result.andThen, h1]
theorem modify_map {β γ : Type} (g : β → γ) (f : β → β) (f' : γ → γ) (h : ∀ a, g (f a) = f' (g a)) : ∀ (l : List β) (j : Nat), (l.modify j f).map g = (l.map g).modify j f' := by
  intro l
  induction l with
  | nil => intro j; simp
  | cons a l ih =>
    intro j
    cases j with
    | zero => simp [h]
    | succ j => simp [List.modify_succ_cons, ih]
theorem modify_eq {γ : Type} (f f' : γ → γ) : ∀ (l : List γ) (j : Nat), (∀ a, l[j]? = some a → f a = f' a) → l.modify j f = l.modify j f' := by
  intro l
  induction l with
  | nil => intro j _; simp
  | cons a l ih =>
    intro j h
    cases j with
    | zero => simp [h a (by simp)]
    | succ j => simp [List.modify_succ_cons, ih j (fun b hb => h b (by simpa using hb))]
theorem modify_same {γ : Type} : ∀ (l : List γ) (j : Nat), l.modify j (fun a => a) = l := by
  intro l
  induction l with
  | nil => intro j; simp
  | cons a l ih => intro j; cases j <;> simp [List.modify_succ_cons, ih]
theorem update_run (K : KeyEnc P kt enc) {mt et : TypeId} (ht : P.underlying mt = some (.map kt et)) {w : World} {b : Nat} {l : List (α × Value)} (h : Ents enc w b l) (x : α) (v : Value) :
    ∃ w', (Instr.mapUpdate mt (.map (some b)) (enc x) v).run P w = .ok () w' ∧ Ents enc w' b (put x v l) ∧ w.grownBy w' (some b) ∧ w'.heap.size = w.heap.size := by
  obtain ⟨es, clock, hb, hf⟩ := h
  have h1 := key_run K x w hf
  have hset : ∀ es' clock', (setObj b (.map es' clock')).run P w = .ok () (setBlock w b (.map es' clock')) := fun es' clock' => by simp [setObj, Sem.run, hb, setBlock]
  have hgr : ∀ es' clock', w.grownBy (setBlock w b (.map es' clock')) (some b) ∧ (setBlock w b (.map es' clock')).heap.size = w.heap.size := fun es' clock' =>
    ⟨⟨rfl, rfl, rfl, by simp [setBlock], fun i _ hi => Go.ChangeMaps.heap_setBlock_other hb _ (fun e => hi (by rw [e]))⟩, by simp [setBlock]⟩
  cases ha : at? x l 0 with
  | none =>
    rw [ha] at h1
    have hx : x ∉ l.map Prod.fst := by
      intro hm
      have : ∀ (l : List (α × Value)) (i : Nat), x ∈ l.map Prod.fst → at? x l i ≠ none := by
        intro l
        induction l with
        | nil => intro i h; cases h
        | cons p l ih =>
          intro i h
          unfold at?
          split
          · simp
          · rename_i hne
            rw [List.map_cons, List.mem_cons] at h
            exact ih _ (h.resolve_left hne)
      exact this l 0 hm ha
    have hp := at_put x v l 0
    rw [ha] at hp
    refine ⟨setBlock w b (.map (es.push { key := enc x, val := v, born := clock }) (clock + 1)), ?_, ⟨_, _, Go.ChangeMaps.heap_setBlock_same hb _, ?_, put_apart x v hf.apart, ?_, ?_⟩, hgr _ _⟩
    · unfold Instr.mapUpdate
      simp [Sem.run_bind, run_underlying ht, Result.andThen, getObj, Sem.run, hb, K.chk, h1, hset]
    · rw [hp]
      dsimp only
      rw [Array.toList_push, List.map_append, List.map_append, hf.kv]
      rfl
    · rw [Array.toList_push, List.map_append, List.nodup_append]
      refine ⟨hf.born, by simp, ?_⟩
      intro a ha' c hc e
      simp at hc
      obtain ⟨q, hq, rfl⟩ := List.mem_map.1 ha'
      have := hf.old q hq
      omega
    · intro e he
      rw [Array.toList_push, List.mem_append, List.mem_singleton] at he
      rcases he with he | rfl
      · exact Nat.lt_succ_of_lt (hf.old e he)
      · exact Nat.lt_succ_self _
  | some r =>
    obtain ⟨j, u⟩ := r
    rw [ha] at h1
    have hj := (at_lt x l 0 j u ha).2
    rw [Nat.sub_zero] at hj
    have hkv : (es.toList.map kv)[j]? = some (enc x, u) := by rw [hf.kv, List.getElem?_map, hj]; rfl
    have hold : ((es[j]?).map (·.key)).getD (enc x) = enc x := by
      rw [List.getElem?_map] at hkv
      cases he : es.toList[j]? with
      | none => rw [he] at hkv; cases hkv
      | some e =>
        rw [he] at hkv
        have : es[j]? = some e := by rw [← Array.getElem?_toList]; exact he
        rw [this]
        exact congrArg Prod.fst (Option.some.inj hkv)
    have hp := at_put x v l 0
    rw [ha] at hp
    dsimp only at hp
    rw [Nat.sub_zero] at hp
    have hb2 : (es.modify j fun e => { e with key := enc x, val := v }).toList.map (·.born) = es.toList.map (·.born) := by
      rw [Array.toList_modify]
      exact (modify_map (fun e : MapEntry => e.born) (fun e => { e with key := enc x, val := v }) (fun a => a) (fun _ => rfl) _ _).trans (modify_same _ _)
    refine ⟨setBlock w b (.map (es.modify j fun e => { e with key := enc x, val := v }) clock), ?_, ⟨_, _, Go.ChangeMaps.heap_setBlock_same hb _, ?_, put_apart x v hf.apart, ?_, ?_⟩, hgr _ _⟩
    · unfold Instr.mapUpdate
      simp [Sem.run_bind, run_underlying ht, Result.andThen, getObj, Sem.run, hb, K.chk, h1, hset, hold, Instr.keyThatStays, K.same]
    · rw [hp, Array.toList_modify, modify_map kv _ (fun _ => (enc x, v)) (fun _ => rfl), modify_map (encE enc) _ (fun q => (q.1, v)) (fun _ => rfl), hf.kv]
      refine modify_eq _ _ _ _ fun a ha' => ?_
      rw [← hf.kv, hkv] at ha'
      rw [← Option.some.inj ha']
    · rw [hb2]; exact hf.born
    · intro e he
      have : e.born ∈ es.toList.map (·.born) := by rw [← hb2]; exact List.mem_map_of_mem he
      obtain ⟨q, hq, hqe⟩ := List.mem_map.1 this
      rw [← hqe]; exact hf.old q hq
theorem Ents.len {w : World} {b : Nat} {l : List (α × Value)} (h : Ents enc w b l) : ∃ es clock, w.heap[b]? = some (.map es clock) ∧ es.size = l.length := by
  obtain ⟨es, clock, hb, hf⟩ := h
  have := congrArg List.length hf.kv
  rw [List.length_map, List.length_map, Array.length_toList] at this
  exact ⟨es, clock, hb, this⟩
/-- an iterator in block r over the map in block b: what is still to come. -/
def Iter (enc : α → Value) (w : World) (r b : Nat) (left : List (α × Value)) : Prop := ∃ es clock since seen c0, w.heap[b]? = some (.map es clock) ∧ w.heap[r]? = some (.mapIter (some b) since seen c0) ∧
  (es.toList.map (·.born)).Nodup ∧ (∀ e ∈ es.toList, e.born < since) ∧ since ≤ c0 ∧ since ≤ clock ∧ (leftOf es seen).toList.map kv = left.map (encE enc) ∧ (left.map Prod.fst).Nodup
theorem Iter.keep {w w' : World} {r b : Nat} {left : List (α × Value)} (h : Iter enc w r b left) (h1 : w'.heap[b]? = w.heap[b]?) (h2 : w'.heap[r]? = w.heap[r]?) : Iter enc w' r b left := by
  obtain ⟨es, clock, since, seen, c0, hb, hr, rest⟩ := h
  exact ⟨es, clock, since, seen, c0, h1.trans hb, h2.trans hr, rest⟩
theorem Iter.lts {w : World} {r b : Nat} {left : List (α × Value)} (h : Iter enc w r b left) : b < w.heap.size ∧ r < w.heap.size := by
  obtain ⟨es, clock, since, seen, c0, hb, hr, rest⟩ := h
  exact ⟨(Array.getElem?_eq_some_iff.1 hb).1, (Array.getElem?_eq_some_iff.1 hr).1⟩
theorem range_run {mt et : TypeId} (ht : P.underlying mt = some (.map kt et)) {w : World} {b : Nat} {l : List (α × Value)} (h : Ents enc w b l) :
    ∃ w', (Instr.range mt (.map (some b))).run P w = .ok (.pointer (some ⟨w.heap.size, 0, none⟩)) w' ∧ Iter enc w' w.heap.size b l ∧ w.grownBy w' none ∧ w'.heap.size = w.heap.size + 1 := by
  obtain ⟨es, clock, hb, hf⟩ := h
  have hlt := (Array.getElem?_eq_some_iff.1 hb).1
  refine ⟨w.alloc (.mapIter (some b) clock #[] clock), ?_, ⟨es, clock, clock, #[], clock, (Below.heap_alloc _ _ b hlt).trans hb, heap_alloc_new w _, hf.born, hf.old, Nat.le_refl _, Nat.le_refl _, ?_, hf.apart⟩, World.grownBy_alloc w _ none, by simp⟩
  · unfold Instr.range
    simp [Sem.run_bind, run_underlying ht, Result.andThen, getObj, Sem.run, hb, newObj]
  · have : leftOf es #[] = es := by unfold leftOf; exact Array.filter_eq_self.2 (by simp)
    rw [this]; exact hf.kv
theorem filter_par {β γ δ : Type} (f : β → δ) (g : γ → δ) (p : β → Bool) (q : γ → Bool) : ∀ (A : List β) (L : List γ), A.map f = L.map g → (∀ (i : Nat) a l, A[i]? = some a → L[i]? = some l → p a = q l) → (A.filter p).map f = (L.filter q).map g := by
  intro A
  induction A with
  | nil => intro L h _; cases L with
    | nil => rfl
    | cons l L => cases h
  | cons a A ih =>
    intro L h hp
    cases L with
    | nil => cases h
    | cons l L =>
      simp only [List.map_cons, List.cons.injEq] at h
      have h0 := hp 0 a l rfl rfl
      have h1 := ih L h.2 fun i b m hb hm => hp (i + 1) b m (by simpa using hb) (by simpa using hm)
      simp only [List.filter_cons, h0]
      split
      · simp [h.1, h1]
      · exact h1
theorem nodup_get {β : Type} : ∀ {l : List β}, l.Nodup → ∀ {i j : Nat} {a : β}, l[i]? = some a → l[j]? = some a → i = j := by
  intro l h i j a hi hj
  obtain ⟨hi1, hi2⟩ := List.getElem?_eq_some_iff.1 hi
  obtain ⟨hj1, hj2⟩ := List.getElem?_eq_some_iff.1 hj
  exact (List.getElem_inj h).1 (hi2.trans hj2.symm)
/-- the step: nothing is left, or one of those that are left comes. -/
theorem next_run {w : World} {r b : Nat} {left : List (α × Value)} (h : Iter enc w r b left) (ty : TypeId) :
    (left = [] ∧ (Instr.next (.pointer (some ⟨r, 0, none⟩)) false ty).run P w = .ok (.tuple #[.bool false]) w) ∨
    ∃ p ∈ left, ∃ w', (Instr.next (.pointer (some ⟨r, 0, none⟩)) false ty).run P w = .ok (.tuple #[.bool true, enc p.1, p.2]) w' ∧ Iter enc w' r b (left.filter fun q => decide (q.1 ≠ p.1)) ∧ w.grownBy w' (some r) ∧ w'.heap.size = w.heap.size ∧
      (Instr.entry (.pointer (some ⟨r, 0, none⟩))).run P w' = .ok (.tuple #[enc p.1, p.2]) w' := by
  obtain ⟨es, clock, since, seen, c0, hb, hr, hbn, hold, hsc, hscl, hkv, hnd⟩ := h
  rcases run_next_at (P := P) w ty r b since c0 seen es clock hr hb hold hsc with ⟨h0, hrun⟩ | ⟨e, he, w1, hw1, hrun⟩
  · left
    have := congrArg List.length hkv
    rw [List.length_map, List.length_map, Array.length_toList, h0] at this
    exact ⟨List.length_eq_zero_iff.1 this.symm, hrun⟩
  · right
    obtain ⟨hem, hes⟩ := mem_left he
    obtain ⟨j, hj⟩ := List.getElem?_of_mem he
    have hk : (left.map (encE enc))[j]? = some (kv e) := by rw [← hkv, List.getElem?_map, hj]; rfl
    rw [List.getElem?_map] at hk
    obtain ⟨p, hpj, hpe⟩ := Option.map_eq_some_iff.1 hk
    have hp := List.mem_of_getElem? hpj
    have hk1 : e.key = enc p.1 := (congrArg Prod.fst hpe).symm
    have hk2 : e.val = p.2 := (congrArg Prod.snd hpe).symm
    have hne : r ≠ b := by
      intro e'
      rw [e', hb] at hr
      cases hr
    have hw : ∀ i : Nat, w1.heap[i]? = w.heap[i]? := fun i => by rcases hw1 with rfl | rfl <;> rfl
    have hsz : w1.heap.size = w.heap.size := by rcases hw1 with rfl | rfl <;> rfl
    have hrlt := (Array.getElem?_eq_some_iff.1 hr).1
    have hr2 : (setBlock w1 r (.mapIter (some b) since (seen.push e.born) clock)).heap[r]? = some (.mapIter (some b) since (seen.push e.born) clock) := by
      simp only [setBlock]
      rw [Array.getElem?_setIfInBounds_self_of_lt (by rw [hsz]; exact hrlt)]
    have hb2 : (setBlock w1 r (.mapIter (some b) since (seen.push e.born) clock)).heap[b]? = some (.map es clock) := by
      simp only [setBlock]
      rw [Array.getElem?_setIfInBounds_ne hne, hw, hb]
    refine ⟨p, hp, _, by rw [hrun, hk1, hk2], ⟨es, clock, since, _, clock, hb2, hr2, hbn, hold, hscl, hscl, ?_, ?_⟩, ⟨?_, ?_, ?_, ?_, ?_⟩, ?_, ?_⟩
    · have e1 : (leftOf es (seen.push e.born)).toList = (leftOf es seen).toList.filter fun x => decide (x.born ≠ e.born) := by
        unfold leftOf
        rw [Array.toList_filter, Array.toList_filter, List.filter_filter]
        congr 1
        funext x
        rw [Bool.eq_iff_iff]
        simp
        exact And.comm
      rw [e1]
      refine filter_par _ _ _ _ _ _ hkv fun i a l ha hl => ?_
      have hA : ((leftOf es seen).toList.map (·.born)).Nodup := by
        refine hbn.sublist (List.Sublist.map _ ?_)
        unfold leftOf
        rw [Array.toList_filter]
        exact List.filter_sublist
      have iff1 : a.born = e.born ↔ i = j := by
        constructor
        · intro h; exact nodup_get hA (a := e.born) (by rw [List.getElem?_map, ha]; simp [h]) (by rw [List.getElem?_map, hj]; rfl)
        · intro h; subst h; rw [ha] at hj; rw [Option.some.inj hj]
      have iff2 : l.1 = p.1 ↔ i = j := by
        constructor
        · intro h; exact nodup_get hnd (a := p.1) (by rw [List.getElem?_map, hl]; simp [h]) (by rw [List.getElem?_map, hpj]; rfl)
        · intro h; subst h; rw [hl] at hpj; rw [Option.some.inj hpj]
      rw [decide_eq_decide]
      exact not_congr (iff1.trans iff2.symm)
    · exact hnd.sublist (List.Sublist.map _ List.filter_sublist)
    · rcases hw1 with rfl | rfl <;> rfl
    · rcases hw1 with rfl | rfl <;> rfl
    · rcases hw1 with rfl | rfl <;> rfl
    · simp [setBlock, hsz]
    · intro i _ hi
      simp only [setBlock]
      rw [Array.getElem?_setIfInBounds_ne (fun e => hi (by rw [e])), hw]
    · simp [setBlock, hsz]
    · rw [← hk1, ← hk2]
      exact run_entry_at _ r b since seen es clock e hr2 hb2 hem hbn
section
variable (w : World) {ops : Array Oper} {rest : List Oper} {o : Oper} {a : Act} {Q : Exit → Act → World → Prop}
theorem wpl_range (hg : o.guard = none) (m : Operand) (mt et : TypeId) (hop : o.op = Op.range mt m) (ht : P.underlying mt = some (.map kt et)) (b : Nat) (l : List (α × Value)) (hm : a.eval m = .map (some b)) (h : Ents enc w b l)
    (hK : ∀ w', Iter enc w' w.heap.size b l → w.grownBy w' none → w'.heap.size = w.heap.size + 1 → wpList P ops Q rest (a.put o.dst (.pointer (some ⟨w.heap.size, 0, none⟩))) w') :
    wpList P ops Q (o :: rest) a w := by
  refine wpList_plain hg fun K' hK' => ?_
  obtain ⟨w', hrun, r1, r2, r3⟩ := range_run ht h
  unfold Oper.wp
  simp [execOp, hop, hm, hrun, Result.andThen]
  exact hK' _ _ (hK w' r1 r2 r3)
theorem wpl_next (hg : o.guard = none) (it : Operand) (hop : o.op = Op.next it false) (r b : Nat) (left : List (α × Value)) (hit : a.eval it = .pointer (some ⟨r, 0, none⟩)) (h : Iter enc w r b left)
    (hDone : left = [] → wpList P ops Q rest (a.put o.dst (.tuple #[.bool false])) w)
    (hMore : ∀ p ∈ left, ∀ w', Iter enc w' r b (left.filter fun q => decide (q.1 ≠ p.1)) → w.grownBy w' (some r) → w'.heap.size = w.heap.size → (Instr.entry (.pointer (some ⟨r, 0, none⟩))).run P w' = .ok (.tuple #[enc p.1, p.2]) w' →
      wpList P ops Q rest (a.put o.dst (.tuple #[.bool true, enc p.1, p.2])) w') :
    wpList P ops Q (o :: rest) a w := by
  refine wpList_plain hg fun K' hK' => ?_
  unfold Oper.wp
  rcases next_run (P := P) h o.type with ⟨h0, hrun⟩ | ⟨p, hp, w', hrun, h1, h2, h3, h4⟩
  · simp [execOp, hop, hit, hrun, Result.andThen]
    exact hK' _ _ (hDone h0)
  · simp [execOp, hop, hit, hrun, Result.andThen]
    exact hK' _ _ (hMore p hp w' h1 h2 h3 h4)
theorem wpl_update (K : KeyEnc P kt enc) (hg : o.guard = none) (m x v : Operand) (mt et : TypeId) (hop : o.op = Op.mapUpdate mt m x v) (ht : P.underlying mt = some (.map kt et)) (b : Nat) (l : List (α × Value)) (hm : a.eval m = .map (some b)) (h : Ents enc w b l) (k : α) (val : Value) (hx : a.eval x = enc k) (hv : a.eval v = val)
    (hK : ∀ w', Ents enc w' b (put k val l) → w.grownBy w' (some b) → w'.heap.size = w.heap.size → wpList P ops Q rest (a.put o.dst undef) w') :
    wpList P ops Q (o :: rest) a w := by
  refine wpList_plain hg fun K' hK' => ?_
  obtain ⟨w', hrun, r1, r2, r3⟩ := update_run K ht h k val
  unfold Oper.wp
  simp [execOp, hop, hm, hx, hv, hrun, Result.andThen]
  exact hK' _ _ (hK w' r1 r2 r3)
theorem wpl_lookup (K : KeyEnc P kt enc) (hg : o.guard = none) (m x : Operand) (mt et : TypeId) (c : Bool) (hop : o.op = Op.lookup mt m x c) (ht : P.underlying mt = some (.map kt et)) (z : Value) (hz : (zeroValue et).run P w = .ok z w) (b : Nat) (l : List (α × Value)) (hm : a.eval m = .map (some b)) (h : Ents enc w b l) (k : α) (hx : a.eval x = enc k)
    (hK : wpList P ops Q rest (a.put o.dst (if c then .tuple #[(val? k l).getD z, .bool (val? k l).isSome] else (val? k l).getD z)) w) :
    wpList P ops Q (o :: rest) a w := by
  refine wpList_plain hg fun K' hK' => ?_
  have hrun := lookup_run K ht h k hz c
  unfold Oper.wp
  simp [execOp, hop, hm, hx, hrun, Result.andThen]
  exact hK' _ _ hK
theorem wpl_len (hg : o.guard = none) (m : Operand) (mt et : TypeId) (hop : o.op = Op.call { callee := Callee.builtin Builtin.len, args := #[m], argTypes := #[mt] }) (ht : P.underlying mt = some (.map kt et)) (b : Nat) (l : List (α × Value)) (hm : a.eval m = .map (some b)) (h : Ents enc w b l)
    (hK : wpList P ops Q rest (a.put o.dst (.int .i64 (l.length : Nat))) w) :
    wpList P ops Q (o :: rest) a w := by
  refine wpList_plain hg fun K' hK' => ?_
  obtain ⟨es, clock, hb, hs⟩ := h.len
  have hrun : (Builtin.len_ #[mt] o.type #[.map (some b)]).run P w = .ok (.int .i64 (l.length : Nat)) w := by
    unfold Builtin.len_
    simp [Sem.run_bind, run_underlying ht, Result.andThen, getObj, Sem.run, hb, hs, goInt]
  unfold Oper.wp
  simp [execOp, hop, resolve, invoke, builtin, hm, hrun, Result.andThen]
  exact hK' _ _ hK
end
end
end
end Go.Proofs.Ytaeiikielelicaa.Pm
