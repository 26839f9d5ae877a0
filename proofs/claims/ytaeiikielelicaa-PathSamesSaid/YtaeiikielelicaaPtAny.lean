/- A region that draws its order, walked by what holds between any two of its operations. -/
import Derived.Orders
set_option linter.unusedVariables false
set_option linter.unusedSimpArgs false
set_option linter.unusedSectionVars false
set_option linter.deprecated false
namespace Go
theorem count_set_lt : ∀ (l : List Bool) (i : Nat), l[i]? = some false → (l.set i true).count false < l.count false
  | [], i, h => by simp at h
  | b :: l, 0, h => by
    obtain rfl : b = false := by simpa using h
    simp
  | b :: l, i + 1, h => by
    have := count_set_lt l i (by simpa using h)
    rw [List.set_cons_succ]
    simp only [List.count_cons]
    omega
theorem ready_mem {md : Region.Mode} {ops : Array Oper} {listed : Array Bool} {i : Nat} (h : i ∈ Region.ready md ops listed) : listed[i]? = some false ∧ ∃ o, ops[i]? = some o ∧ ∀ e ∈ o.after, Region.binds md e = true → listed.getD e.on false = true := by
  unfold Region.ready at h
  obtain ⟨h1, h2⟩ := List.mem_filter.1 h
  rw [Bool.and_eq_true] at h2
  obtain ⟨h2, h3⟩ := h2
  constructor
  · cases hl : listed[i]? with
    | none => rw [Array.getD_eq_getD_getElem?, hl] at h2; simp at h2
    | some b => rw [Array.getD_eq_getD_getElem?, hl] at h2; simp at h2; rw [h2]
  · cases ho : ops[i]? with
    | none => rw [ho] at h3; simp at h3
    | some o =>
      rw [ho] at h3
      refine ⟨o, rfl, fun e he hb => ?_⟩
      obtain ⟨k, hk, rfl⟩ := Array.mem_iff_getElem.1 he
      have h5 := Array.all_eq_true.1 (show (o.after.all fun e => !Region.binds md e || listed.getD e.on false) = true from h3) k hk
      rw [hb] at h5
      simpa using h5
theorem wpAny_inv {P : Program} {md : Region.Mode} {ops : Array Oper} {Q : Exit → Act → World → Prop} (I : Array Bool → Act → World → Prop)
    (hstep : ∀ l a w i, I l a w → i ∈ Region.ready md ops l → wpOp P ops Q i (I (l.setIfInBounds i true)) a w)
    (hend : ∀ l a w, I l a w → Region.ready md ops l = [] → Q .normal a w) : ∀ (fuel : Nat) (l : Array Bool) (a : Act) (w : World), l.toList.count false ≤ fuel → I l a w → wpAny P md ops Q fuel l a w := by
  intro fuel
  induction fuel with
  | zero =>
    intro l a w hc hI
    have hr : Region.ready md ops l = [] := List.eq_nil_iff_forall_not_mem.2 fun i hi => by
      have h1 := (ready_mem hi).1
      have h2 := count_set_lt l.toList i (by simpa using h1)
      omega
    exact ⟨hr, hend l a w hI hr⟩
  | succ fuel ih =>
    intro l a w hc hI
    refine ⟨fun hr => hend l a w hI hr, fun i hi => wpOp_mono (fun a' w' h => ih _ a' w' ?_ h) (hstep l a w i hI hi)⟩
    have h1 := (ready_mem hi).1
    have h2 := count_set_lt l.toList i (by simpa using h1)
    rw [Array.toList_setIfInBounds]
    omega
/-- at a region. -/
theorem wp_region_inv {P : Program} {ops : Array Oper} {Q : Exit → Act → World → Prop} {id : Nat} {a : Act} {w : World} (hm : P.follows .mixedOrders = true) (I : Array Bool → Act → World → Prop)
    (hstart : I (Array.replicate ops.size false) a { w with drawn := w.drawn + 1 })
    (hstep : ∀ l a w i, I l a w → i ∈ Region.ready .any ops l → wpOp P ops Q i (I (l.setIfInBounds i true)) a w)
    (hend : ∀ l a w, I l a w → Region.ready .any ops l = [] → Q .normal a w) : (Code.region id ops true).wp P Q a w :=
  wp_region_any hm (wpAny_inv I hstep hend _ _ _ _ (by simp) hstart)
/-- what the frame holds between two operations: what was yielded, and what was there. -/
structure Region.Got (ops : Array Oper) (a0 : Act) (l : Array Bool) (v : Nat → Value) (a : Act) : Prop where
  defers : a.defers = a0.defers
  size : a.tmps.size = a0.tmps.size
  got : ∀ (j : Nat) (o : Oper) d, ops[j]? = some o → o.dst = some d → l.getD j false = true → a.tmps[d]? = some (v j)
  rest : ∀ (d : Nat), (∀ (j : Nat) (o : Oper), ops[j]? = some o → o.dst = some d → l.getD j false = false) → a.tmps[d]? = a0.tmps[d]?
/-- the region's own shape: no guards, each yields into a temporary of its own, which is there; what one waits for stands ahead of it. -/
structure Region.Plain (ops : Array Oper) (n : Nat) : Prop where
  guard : ∀ (i : Nat) (o : Oper), ops[i]? = some o → o.guard = none
  own : ∀ (i j : Nat) (oi oj : Oper) d, ops[i]? = some oi → ops[j]? = some oj → oi.dst = some d → oj.dst = some d → i = j
  there : ∀ (i : Nat) (o : Oper) d, ops[i]? = some o → o.dst = some d → d < n
  ahead : ∀ (i : Nat) (o : Oper), ops[i]? = some o → ∀ e ∈ o.after, Region.binds .any e = true → e.on < i
theorem getD_set {l : Array Bool} {i : Nat} (hi : l[i]? = some false) (j : Nat) : (l.setIfInBounds i true).getD j false = if j = i then true else l.getD j false := by
  have hlt := (Array.getElem?_eq_some_iff.1 hi).1
  rw [Array.getD_eq_getD_getElem?, Array.getD_eq_getD_getElem?, Array.getElem?_setIfInBounds]
  by_cases h : j = i
  · subst h; simp [hlt]
  · rw [if_neg (fun e => h e.symm), if_neg h]
theorem Region.Got.put {ops : Array Oper} {a0 : Act} {l : Array Bool} {v : Nat → Value} {a : Act} (h : Region.Got ops a0 l v a) (hp : Region.Plain ops a0.tmps.size) {i : Nat} {o : Oper} (ho : ops[i]? = some o) (hi : l[i]? = some false) (u : Value) :
    Region.Got ops a0 (l.setIfInBounds i true) (fun k => if k = i then u else v k) (a.put o.dst u) := by
  cases hd : o.dst with
  | none =>
    refine ⟨h.defers, h.size, fun j oj d hj hjd hl => ?_, fun d hd' => h.rest d fun j oj hj hjd => ?_⟩
    · rw [getD_set hi] at hl
      have hne : j ≠ i := fun e => by subst e; rw [ho] at hj; cases hj; rw [hd] at hjd; cases hjd
      rw [if_neg hne] at hl
      show a.tmps[d]? = some (if j = i then u else v j)
      rw [if_neg hne]
      exact h.got j oj d hj hjd hl
    · have := hd' j oj hj hjd
      rw [getD_set hi] at this
      split at this
      · cases this
      · exact this
  | some d0 =>
    have hlt : d0 < a.tmps.size := by rw [h.size]; exact hp.there i o d0 ho hd
    refine ⟨h.defers, (by show (a.tmps.setIfInBounds d0 u).size = _; rw [Array.size_setIfInBounds]; exact h.size), fun j oj d hj hjd hl => ?_, fun d hd' => ?_⟩
    · show (a.tmps.setIfInBounds d0 u)[d]? = some (if j = i then u else v j)
      rw [Array.getElem?_setIfInBounds]
      rw [getD_set hi] at hl
      by_cases e : j = i
      · subst e
        rw [ho] at hj
        cases hj
        rw [hd] at hjd
        cases hjd
        simp [hlt]
      · rw [if_neg e] at hl ⊢
        rw [if_neg (fun e2 => e (hp.own j i oj o d hj ho hjd (by rw [hd, e2])))]
        exact h.got j oj d hj hjd hl
    · show (a.tmps.setIfInBounds d0 u)[d]? = _
      rw [Array.getElem?_setIfInBounds]
      have hne : ¬ d0 = d := fun e => by
        have := hd' i o ho (by rw [hd, e])
        rw [getD_set hi, if_pos rfl] at this
        cases this
      rw [if_neg hne]
      refine h.rest d fun j oj hj hjd => ?_
      have := hd' j oj hj hjd
      rw [getD_set hi] at this
      split at this
      · cases this
      · exact this
theorem all_listed {ops : Array Oper} {l : Array Bool} {n : Nat} (hp : Region.Plain ops n) (hl : l.size = ops.size) (hr : Region.ready .any ops l = []) : ∀ i, i < ops.size → l.getD i false = true := by
  intro i
  induction i using Nat.strongRecOn with
  | ind i ih =>
    intro hi
    cases hb : l.getD i false with
    | true => rfl
    | false =>
      exfalso
      have hmem : i ∈ Region.ready .any ops l := by
        unfold Region.ready
        refine List.mem_filter.2 ⟨List.mem_range.2 hi, ?_⟩
        have h1 : l.getD i true = false := by
          rw [Array.getD_eq_getD_getElem?] at hb ⊢
          rw [Array.getElem?_eq_getElem (by omega)] at hb ⊢
          exact hb
        have h2 : ops[i]? = some ops[i] := Array.getElem?_eq_getElem hi
        rw [h1, h2]
        show (ops[i].after.all fun e => !Region.binds .any e || l.getD e.on false) = true
        rw [Array.all_eq_true]
        intro k hk
        cases hbd : Region.binds .any ops[i].after[k] with
        | false => rfl
        | true =>
          have hlt := hp.ahead i _ h2 _ (Array.getElem_mem hk) hbd
          rw [ih _ hlt (by omega)]
          rfl
      rw [hr] at hmem
      cases hmem
theorem wp_region_ghost {P : Program} {ops : Array Oper} {Q : Exit → Act → World → Prop} {id : Nat} {a : Act} {w : World} (hm : P.follows .mixedOrders = true) (hp : Region.Plain ops a.tmps.size) (J : Array Bool → (Nat → Value) → World → Prop)
    (v0 : Nat → Value) (hstart : J (Array.replicate ops.size false) v0 { w with drawn := w.drawn + 1 })
    (hstep : ∀ l v a' w' (i : Nat) (o : Oper), Region.Got ops a l v a' → J l v w' → ops[i]? = some o → l[i]? = some false → (∀ e ∈ o.after, Region.binds .any e = true → l.getD e.on false = true) →
      ∃ u w'', ((execOp a'.eval o).run P w' = .ok (.value u) w'' ∨ ((execOp a'.eval o).run P w' = .ok .skip w'' ∧ u = undef)) ∧ J (l.setIfInBounds i true) (fun k => if k = i then u else v k) w'')
    (hend : ∀ l v a' w', Region.Got ops a l v a' → J l v w' → (∀ i, i < ops.size → l.getD i false = true) → Q .normal a' w') : (Code.region id ops true).wp P Q a w := by
  refine wp_region_inv hm (fun l a' w' => l.size = ops.size ∧ ∃ v, Region.Got ops a l v a' ∧ J l v w') ⟨by simp, v0, ⟨rfl, rfl, fun j o d _ _ h => ?_, fun d _ => rfl⟩, hstart⟩ ?_ ?_
  · rw [Array.getD_eq_getD_getElem?] at h
    rcases hj : (Array.replicate ops.size false)[j]? with _ | b
    · rw [hj] at h; cases h
    · rw [hj] at h
      have := Array.mem_of_getElem? hj
      rw [Array.mem_replicate] at this
      rw [this.2] at h
      cases h
  · rintro l a' w' i ⟨hl, v, hG, hJ⟩ hi
    obtain ⟨h1, o, ho, h2⟩ := ready_mem hi
    obtain ⟨u, w'', hr, hJ'⟩ := hstep l v a' w' i o hG hJ ho h1 h2
    unfold wpOp
    rw [ho]
    have hw : Region.wanted o (yielded ops a'.tmps) = true := by simp [Region.wanted, hp.guard i o ho]
    show if Region.wanted o (yielded ops a'.tmps) = true then _ else _
    rw [if_pos hw]
    refine .inl ?_
    unfold Oper.wp
    rcases hr with hr | ⟨hr, rfl⟩
    · rw [hr]
      exact ⟨by rw [Array.size_setIfInBounds]; exact hl, _, hG.put hp ho h1 u, hJ'⟩
    · rw [hr]
      exact ⟨by rw [Array.size_setIfInBounds]; exact hl, _, hG.put hp ho h1 undef, hJ'⟩
  · rintro l a' w' ⟨hl, v, hG, hJ⟩ hr
    exact hend l v a' w' hG hJ (all_listed hp hl hr)
def Region.plainB (ops : Array Oper) (n : Nat) : Bool := (List.range ops.size).all fun i => match ops[i]? with
  | none => true
  | some o => o.guard.isNone && ((match o.dst with
      | none => true
      | some d => decide (d < n) && (List.range ops.size).all fun j => match ops[j]? with
          | none => true
          | some o2 => !(o2.dst == some d) || decide (i = j)) && o.after.all fun e => !Region.binds .any e || decide (e.on < i))
theorem Region.plain_of_B {ops : Array Oper} {n : Nat} (h : Region.plainB ops n = true) : Region.Plain ops n := by
  have key : ∀ (i : Nat) (o : Oper), ops[i]? = some o → (o.guard.isNone && ((match o.dst with
      | none => true
      | some d => decide (d < n) && (List.range ops.size).all fun j => match ops[j]? with
          | none => true
          | some o2 => !(o2.dst == some d) || decide (i = j)) && o.after.all fun e => !Region.binds .any e || decide (e.on < i))) = true := fun i o ho => by
    unfold Region.plainB at h
    have := List.all_eq_true.1 h i (List.mem_range.2 (Array.getElem?_eq_some_iff.1 ho).1)
    rw [ho] at this
    exact this
  refine ⟨fun i o ho => ?_, fun i j oi oj d hi hj h1 h2 => ?_, fun i o d ho hd => ?_, fun i o ho e he hb => ?_⟩
  · have := key i o ho
    rw [Bool.and_eq_true] at this
    exact Option.isNone_iff_eq_none.1 this.1
  · have := key i oi hi
    rw [h1, Bool.and_eq_true, Bool.and_eq_true] at this
    have h3 := (Bool.and_eq_true _ _ |>.mp this.2.1).2
    have h4 := List.all_eq_true.1 h3 j (List.mem_range.2 (Array.getElem?_eq_some_iff.1 hj).1)
    rw [hj] at h4
    simpa [h2] using h4
  · have := key i o ho
    rw [hd, Bool.and_eq_true, Bool.and_eq_true] at this
    exact of_decide_eq_true (Bool.and_eq_true _ _ |>.mp this.2.1).1
  · have := key i o ho
    rw [Bool.and_eq_true, Bool.and_eq_true] at this
    obtain ⟨k, hk, rfl⟩ := Array.mem_iff_getElem.1 he
    have h5 := Array.all_eq_true.1 this.2.2 k hk
    rw [hb] at h5
    simpa using h5
end Go
