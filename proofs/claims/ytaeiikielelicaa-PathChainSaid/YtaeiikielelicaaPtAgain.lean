/- The maps of path: again and again. -/
import Derived.Test.YtaeiikielelicaaPtBeh2
import Derived.ScopeJumps
set_option linter.unusedVariables false
set_option linter.unusedSimpArgs false
set_option linter.unusedSectionVars false
set_option linter.deprecated false
namespace Go.Proofs.Ytaeiikielelicaa.Pt
open Go.RowKit Go.Proofs Go.Am
open Pm
set_option maxRecDepth 1000000
set_option linter.unusedVariables false
set_option linter.unusedSimpArgs false
noncomputable section
/-- one step or more. -/
inductive Plus (A : Pr → Prop) : Tm → Tm → Prop
  | one {x y : Tm} : A (x, y) → Plus A x y
  | more {x y z : Tm} : Plus A x y → A (y, z) → Plus A x z
def plusP (A : Pr → Prop) (p : Pr) : Prop := Plus A p.1 p.2
/-- what holds between two passes. -/
structure AInv (A O L : Pr → Prop) : Prop where
  base : ∀ p, A p → O p
  only : ∀ p, O p → plusP A p
  last : ∀ p, L p → O p
  step : ∀ x y z, O (x, y) → A (y, z) → O (x, z) ∨ L (x, y)
theorem AInv.start (A : Pr → Prop) : AInv A A A := ⟨fun _ h => h, fun _ h => .one h, fun _ h => h, fun _ _ _ h _ => .inr h⟩
theorem AInv.all {A O L : Pr → Prop} (h : AInv A O L) (hm : ∀ p, behindP L A p → O p) {x y : Tm} (hp : Plus A x y) : O (x, y) := by
  induction hp with
  | one h1 => exact h.base _ h1
  | more _ h2 ih => exact (h.step _ _ _ ih h2).elim id (fun hl => hm _ ⟨_, hl, h2⟩)
theorem AInv.done {A O L : Pr → Prop} (h : AInv A O L) (hm : ∀ p, behindP L A p → O p) (p : Pr) : O p ↔ plusP A p := ⟨h.only p, fun hp => h.all hm hp⟩
theorem AInv.next {A O L : Pr → Prop} (h : AInv A O L) : AInv A (fun p => O p ∨ (behindP L A p ∧ ¬ O p)) (fun p => behindP L A p ∧ ¬ O p) where
  base p hp := .inl (h.base p hp)
  only p hp := hp.elim (h.only p) (fun ⟨⟨y, h1, h2⟩, _⟩ => Plus.more (show Plus A p.1 y from h.only (p.1, y) (h.last (p.1, y) h1)) h2)
  last p hp := .inr hp
  step x y z hp hA := by
    rcases hp with hp | hp
    · rcases h.step x y z hp hA with h1 | h1
      · exact .inl (.inl h1)
      · by_cases hO : O (x, z)
        · exact .inl (.inl hO)
        · exact .inl (.inr ⟨⟨y, h1, hA⟩, hO⟩)
    · exact .inr hp
theorem zero3 (W : World) : (zeroValue 3).run Try.prog W = .ok (.int .i64 0) W := by kernel_rfl
theorem val_some {x : Pr} {l : List (Pr × Value)} (h : x ∈ l.map Prod.fst) : (Pm.val? x l).isSome = true := by
  unfold Pm.val?
  rw [Option.isSome_map, List.find?_isSome]
  obtain ⟨q, hq, rfl⟩ := List.mem_map.1 h
  exact ⟨q, hq, by simp⟩
theorem val_nil {x : Pr} {l : List (Pr × Value)} (h : x ∉ l.map Prod.fst) : (Pm.val? x l).isSome = false := by
  unfold Pm.val?
  rw [Option.isSome_map, Bool.eq_false_iff]
  intro hs
  obtain ⟨q, hq, he⟩ := List.find?_isSome.1 hs
  exact h (by rw [show x = q.1 by simpa using he]; exact List.mem_map_of_mem hq)
open Classical in
def inMap (W : World) (b : Nat) (p : Pr) : Prop := ∃ es clock, W.heap[b]? = some (.map es clock) ∧ encP p ∈ es.toList.map (·.key)
theorem PSet.inMap {W : World} {b : Nat} {S : Pr → Prop} (h : PSet W b S) (p : Pr) : inMap W b p ↔ S p := by
  obtain ⟨l, ⟨es, clock, hb, hf⟩, hS⟩ := h
  have hk : es.toList.map (·.key) = l.map fun q => encP q.1 := by
    have := congrArg (List.map Prod.fst) hf.kv
    rw [List.map_map, List.map_map] at this
    exact this
  rw [← hS]
  constructor
  · rintro ⟨es', clock', hb', hm⟩
    rw [hb] at hb'
    cases hb'
    rw [hk] at hm
    obtain ⟨q, hq, he⟩ := List.mem_map.1 hm
    rw [← keyP.inj _ _ he]
    exact List.mem_map_of_mem hq
  · intro hm
    obtain ⟨q, hq, rfl⟩ := List.mem_map.1 hm
    exact ⟨es, clock, hb, by rw [hk]; exact List.mem_map_of_mem (f := fun q : Pr × Value => encP q.1) hq⟩
def slot3 (a : Act) : Nat := match a.tmps[3]? with
  | some (Value.map (some b)) => b
  | _ => 0
open Classical in
/-- how many pairs are not in the map yet. -/
def lack (T : List Tm) (a : Act) (W : World) : Nat := ((T.flatMap fun x => T.map fun y => (x, y)).filter fun p => decide (¬ inMap W (slot3 a) p)).length
open Classical in
theorem lack_lt {T : List Tm} {a1 a2 : Act} {W1 W2 : World} {S1 S2 : Pr → Prop} (h1 : PSet W1 (slot3 a1) S1) (h2 : PSet W2 (slot3 a2) S2) (hm : ∀ p, S1 p → S2 p) {p : Pr} (hp : p.1 ∈ T ∧ p.2 ∈ T) (hn : ¬ S1 p) (hy : S2 p) : lack T a2 W2 < lack T a1 W1 := by
  unfold lack
  have e : ((T.flatMap fun x => T.map fun y => (x, y)).filter fun p => decide (¬ inMap W2 (slot3 a2) p)) = ((T.flatMap fun x => T.map fun y => (x, y)).filter fun p => decide (¬ inMap W1 (slot3 a1) p)).filter fun p => decide (¬ inMap W2 (slot3 a2) p) := by
    rw [List.filter_filter]
    congr 1
    funext q
    rw [Bool.eq_iff_iff]
    simp only [Bool.and_eq_true, decide_eq_true_eq]
    exact ⟨fun h => ⟨h, fun h' => h ((h2.inMap q).2 (hm q ((h1.inMap q).1 h')))⟩, fun h => h.1⟩
  rw [e, List.length_filter_lt_length_iff_exists]
  refine ⟨p, List.mem_filter.2 ⟨List.mem_flatMap.2 ⟨p.1, hp.1, List.mem_map.2 ⟨p.2, hp.2, rfl⟩⟩, ?_⟩, ?_⟩
  · rw [decide_eq_true_eq]
    exact fun h => hn ((h1.inMap p).1 h)
  · simp only [decide_eq_true_eq, Classical.not_not]
    exact (h2.inMap p).2 hy
theorem plus_in {A : Pr → Prop} {T : List Tm} (hT : ∀ p, A p → p.1 ∈ T ∧ p.2 ∈ T) {x y : Tm} (h : Plus A x y) : x ∈ T ∧ y ∈ T := by
  induction h with
  | one h => exact hT _ h
  | more _ h ih => exact ⟨ih.1, (hT _ h).2⟩
theorem tm_in {A : Pr → Prop} {T : List Tm} (hT : ∀ p, A p → p.1 ∈ T ∧ p.2 ∈ T) {p : Pr} (h : plusP A p) : p.1 ∈ T ∧ p.2 ∈ T := plus_in hT h
set_option maxHeartbeats 4000000 in
theorem again_calls (a : Nat) (A : Pr → Prop) (T : List Tm) (w : World) (ha : PSet w a A) (hT : ∀ p, A p → p.1 ∈ T ∧ p.2 ∈ T) (hTl : T.length ≤ 1000) :
    Calls Try.prog 59 #[.map (some a)] w fun e w' => ∃ c, e = .returned (.map (some c)) ∧ w.heap.size ≤ c ∧ PSet w' c (plusP A) ∧ Below w.heap.size w w' := by
  obtain ⟨es, clock, hes, hA0⟩ := ha.clone
  have hmk2 := make62
  go_enter Try.func59, Try.ntmps59
  go_wp2
  refine wp_scope_jumps 0 (fun act W => ∃ (o la : Nat) (O L : Pr → Prop), PSet W a A ∧ PSet W o O ∧ PSet W la L ∧ AInv A O L ∧ Below w.heap.size w W ∧ w.heap.size ≤ o ∧ ∃ (u1 u2 u5 u6 u7 u8 u9 u10 u11 u12 u13 u14 u15 u16 u17 u18 u19 u20 u21 u22 u23 u24 u25 u26 u27 u28 u29 u30 u31 u32 u33 u34 u35 u36 u37 u38 : Value), act = { tmps := #[.map (some a), u1, u2, .map (some o), .map (some la), u5, u6, u7, u8, u9, u10, u11, u12, u13, u14, u15, u16, u17, u18, u19, u20, u21, u22, u23, u24, u25, u26, u27, u28, u29, u30, u31, u32, u33, u34, u35, u36, u37, u38], defers := [] }) (lack T) rfl ?_ ?_
  · go_wp2_with (go_at_call 57; refine (clone_calls a es clock w hes).mono ?_; rintro e w1 ⟨rfl, rfl⟩)
    go_step3
    have ha : PSet (w.alloc (.map es clock)) a A := ha.alloc _
    obtain ⟨W, hWd⟩ : ∃ W, w.alloc (.map es clock) = W := ⟨_, rfl⟩
    have hbw : Below w.heap.size w W := by rw [← hWd]; exact (Below.refl _ w).alloc (Nat.le_refl _) _
    rw [hWd] at ha hA0 ⊢
    obtain ⟨o, hoe⟩ : ∃ o, o = w.heap.size := ⟨_, rfl⟩
    have ho : PSet W o A := by rw [hoe]; exact hA0
    rw [← hoe]
    have hla : PSet W a A := ha
    have hinv := AInv.start A
    have hno : w.heap.size ≤ o := by omega
    clear hWd hA0 hes hoe
    obtain ⟨W0, hW0⟩ : ∃ W0, W.alloc (.map #[] 0) = W0 := ⟨_, rfl⟩
    have hmore : PSet W0 W.heap.size (fun _ => False) := by rw [← hW0]; exact ⟨[], Ents.made encP W, fun p => by simp⟩
    have ha0 : PSet W0 a A := by rw [← hW0]; exact ha.alloc _
    have hoW : PSet W o A := ho
    have ho0 : PSet W0 o A := by rw [← hW0]; exact ho.alloc _
    have hl0 : PSet W0 a A := by rw [← hW0]; exact hla.alloc _
    have hb0 : Below w.heap.size w W0 := by rw [← hW0]; exact hbw.alloc hbw.size _
    have hs0 : W0.heap.size = W.heap.size + 1 := by rw [← hW0]; simp
    have hbeh := behind_calls a a A A T W0 hl0 ha0 hT hTl
    go_wp2_with (first
      | (go_at_call 48; (try rw [hW0]); refine hbeh.mono ?_; rintro e w2 ⟨c, rfl, hc1, ⟨lc, hlc, hC⟩, hb2⟩)
      | (at_range; refine wpl_range _ rfl _ 62 3 rfl und62 c lc rfl hlc ?_; intro w3 hi3 hg3 hs3))
    go_frame
    obtain ⟨M0, hM0⟩ : ∃ M0, W.heap.size = M0 := ⟨_, rfl⟩
    obtain ⟨r, hr⟩ : ∃ r, w2.heap.size = r := ⟨_, rfl⟩
    rw [hr] at hi3 hs3 ⊢
    rw [hM0] at hmore hs0 ⊢
    have hb3 : Below W0.heap.size W0 w3 := hb2.trans ⟨hg3.os, hg3.tape, hg3.output, by omega, fun i hi => hg3.block i (by have := hb2.size; omega) (by simp)⟩
    have hcl := hlc.lt
    have ha3 := ha0.below hb3
    have ho3 := ho0.below hb3
    have hm3 := hmore.below hb3
    have hb3w := hb0.trans (hb3.mono hb0.size)
    have hom : o ≠ M0 := by have := ho.lt; omega
    have ham : a ≠ M0 := by have := ha.lt; omega
    have holt := ho0.lt
    have halt := ha0.lt
    have hmlt := hmore.lt
    have hcM : M0 < c := by omega
    have hrc : c < r := by omega
    clear hbeh hW0 hM0 hr hg3 hb3 hl0 ha0 ho0 hb0 hb2 hmore ha ho hla hlc
    go_loopg [] (lc.length + 1) (fun gf wx => ∃ left, Iter encP wx r c left ∧ PSet wx a A ∧ PSet wx o A ∧ PSet wx M0 (fun p => (behindP A A p ∧ p ∉ left.map Prod.fst) ∧ ¬ A p) ∧ (∀ p ∈ left.map Prod.fst, behindP A A p) ∧ Below w.heap.size w wx ∧ r + 1 ≤ wx.heap.size ∧ left.length < gf)
    case atStart => exact ⟨lc, hi3, ha3, ho3, hm3.iff (fun p => ⟨fun h => h.elim, fun h => h.1.2 ((hC p).2 h.1.1)⟩), fun p hp => (hC p).1 hp, hb3w, by omega, by omega⟩
    case round =>
      clear hi3 ha3 ho3 hm3 hb3w
      obtain ⟨left, hI, ha, ho, ⟨lm, hlm, hM⟩, hsub, hbx, hsz, hfu⟩ := hrel
      obtain ⟨g', rfl⟩ : ∃ g', gk = g' + 1 := ⟨gk - 1, by omega⟩
      obtain ⟨lo, hlo, hO⟩ := ho
      have hlts := hI.lts
      go_wp2_with (first
        | (at_next; refine wpl_nextP _ rfl _ rfl r c left rfl hI ?_ ?_; rotate_left; (intro x y v hx w4 hi4 hg4 hs4 hen4; have hlo4 : ∀ o', Ents encP (w4.alloc o') o lo := fun o' => hlo.keep ((Below.heap_alloc _ _ _ (by omega)).trans (hg4.block o (by omega) (fun e => by have := Option.some.inj e; omega))); have hlm4 : ∀ o', Ents encP (w4.alloc o') M0 lm := fun o' => hlm.keep ((Below.heap_alloc _ _ _ (by omega)).trans (hg4.block M0 (by omega) (fun e => by have := Option.some.inj e; omega))); obtain ⟨vv, hvv⟩ : ∃ vv, (Pm.val? (x, y) lo).getD (Value.int .i64 0) = vv := ⟨_, rfl⟩; obtain ⟨bb, hbb⟩ : ∃ bb, (Pm.val? (x, y) lo).isSome = bb := ⟨_, rfl⟩); rotate_left; intro h0)
        | (refine wpl_lookup _ keyP rfl _ _ 62 3 true rfl und62 (.int .i64 0) (zero3 _) o lo rfl (hlo4 _) (x, y) rfl ?_; simp only [if_true]; rw [hvv, hbb])
        | (refine wpl_update _ keyP rfl _ _ _ 62 3 rfl und62 M0 lm rfl (hlm4 _) (x, y) (.int .i64 1) rfl rfl ?_; intro w5 he5 hg5 hs5)
        | (at_len; refine wpl_len _ rfl _ 62 3 rfl und62 M0 lm rfl hlm ?_)
        | (go_at_call 46; refine (both_calls o M0 A _ _ ⟨lo, hlo, hO⟩ ⟨lm, hlm, hM⟩).mono ?_; rintro e w9 ⟨o9, rfl, ho9, hP9, hb9⟩))
      · subst h0
        have hz : lm = [] := List.length_eq_zero_iff.1 (by first | omega | (rename_i hq; simp at hq; simp [hq]))
        subst hz
        have hempty : ∀ p, behindP A A p → A p := fun p hp => Classical.byContradiction fun hn => by
          have := (hM p).2 ⟨⟨hp, by simp⟩, hn⟩
          simp at this
        try simp only [Exit.jump]
        go_ret
        exact ⟨o, rfl, hno, (show PSet _ o A from ⟨lo, hlo, hO⟩).iff (fun p => hinv.done hempty p), hbx⟩
      · subst h0
        have hne : ∃ q, q ∈ lm := by
          cases lm with
          | nil => exfalso; rename_i hq; simp at hq
          | cons q lm => exact ⟨q, List.mem_cons_self⟩
        obtain ⟨q, hq⟩ := hne
        have hMq := (hM q.1).1 (List.mem_map_of_mem (f := Prod.fst) hq)
        have hM' : ∀ p, ((behindP A A p ∧ p ∉ ([] : List (Pr × Value)).map Prod.fst) ∧ ¬ A p) ↔ behindP A A p ∧ ¬ A p := fun p => by simp
        go_step3
        have hJ : PSet w9 a A ∧ PSet w9 o9 (fun p => A p ∨ (behindP A A p ∧ ¬ A p)) ∧ PSet w9 M0 (fun p => behindP A A p ∧ ¬ A p) ∧ AInv A (fun p => A p ∨ (behindP A A p ∧ ¬ A p)) (fun p => behindP A A p ∧ ¬ A p) ∧ Below w.heap.size w w9 ∧ w.heap.size ≤ o9 :=
          ⟨ha.below hb9, hP9.iff (fun p => or_congr Iff.rfl (hM' p)), (show PSet wr M0 _ from ⟨lm, hlm, hM⟩).iff hM' |>.below hb9, hinv.next, hbx.trans (hb9.mono hbx.size), by have := hbx.size; omega⟩
        exact ⟨rfl, o9, M0, _, _, hJ.1, hJ.2.1, hJ.2.2.1, hJ.2.2.2.1, hJ.2.2.2.2.1, hJ.2.2.2.2.2, by (repeat apply Exists.intro); rfl⟩
      · have hnO : ¬ A (x, y) := fun h => by
          have hq := val_some (l := lo) ((hO (x, y)).2 h)
          rw [hbb] at hq
          rename (!bb) = true => hq2
          rw [hq] at hq2
          cases hq2
        have hxy : (x, y) ∈ left.map Prod.fst := List.mem_map_of_mem (f := Prod.fst) hx
        have hflt := (List.length_filter_lt_length_iff_exists (p := fun q : Pr × Value => decide (q.1 ≠ (x, y))) (l := left)).2 ⟨((x, y), v), hx, by simp⟩
        have hs5' : w5.heap.size = wr.heap.size + 1 := by rw [hs5, World.size_alloc, hs4]
        have keep4 : ∀ i, i < wr.heap.size → i ≠ M0 → w5.heap[i]? = w4.heap[i]? := fun i hi hn => (hg5.block i (by rw [World.size_alloc]; omega) (fun e => hn (Option.some.inj e))).trans (Below.heap_alloc _ _ _ (by omega))
        have keep5 : ∀ i, i < wr.heap.size → i ≠ M0 → i ≠ r → w5.heap[i]? = wr.heap[i]? := fun i hi hn hn2 => (keep4 i hi hn).trans (hg4.block i hi (fun e => hn2 (Option.some.inj e)))
        have hal := ha.lt
        go_roundg g'
        case measure => omega
        case rel =>
          refine ⟨_, hi4.keep (keep4 _ (by omega) (by omega)) (keep4 _ (by omega) (by omega)), ha.keep (keep5 _ hal ham (by omega)), ⟨lo, hlo.keep (keep5 _ (by omega) hom (by omega)), hO⟩, (PSet.put (x, y) (.int .i64 1) he5 hM).iff (fun p => ?_), fun p hp => hsub p (mem_left_keys.1 hp).1, ⟨hg5.os.trans (hg4.os.trans hbx.os), hg5.tape.trans (hg4.tape.trans hbx.tape), hg5.output.trans (hg4.output.trans hbx.output), by have := hbx.size; omega, fun i hi => (keep5 i (by have := hbx.size; omega) (by omega) (by omega)).trans (hbx.block i hi)⟩, by omega, by omega⟩
          rw [mem_left_keys]
          constructor
          · rintro (rfl | ⟨⟨h1, h2⟩, h3⟩)
            · exact ⟨⟨hsub _ hxy, fun h => h.2 rfl⟩, hnO⟩
            · exact ⟨⟨h1, fun h => h2 h.1⟩, h3⟩
          · rintro ⟨⟨h1, h2⟩, h3⟩
            by_cases e : p = (x, y)
            · exact .inl e
            · exact .inr ⟨⟨h1, fun h => h2 ⟨h, e⟩⟩, h3⟩
      · have hyO : A (x, y) := (hO (x, y)).1 (Classical.byContradiction fun h => by
          have hq := val_nil (l := lo) h
          rw [hq] at hbb
          rename (!bb) = false => hq2
          rw [← hbb] at hq2
          cases hq2)
        have hxy : (x, y) ∈ left.map Prod.fst := List.mem_map_of_mem (f := Prod.fst) hx
        have hflt := (List.length_filter_lt_length_iff_exists (p := fun q : Pr × Value => decide (q.1 ≠ (x, y))) (l := left)).2 ⟨((x, y), v), hx, by simp⟩
        have keep5 : ∀ (o' : Obj) i, i < wr.heap.size → i ≠ r → (w4.alloc o').heap[i]? = wr.heap[i]? := fun o' i hi hn2 => (Below.heap_alloc _ _ _ (by omega)).trans (hg4.block i hi (fun e => hn2 (Option.some.inj e)))
        have hal := ha.lt
        go_roundg g'
        case measure => omega
        case rel =>
          refine ⟨_, hi4.keep (Below.heap_alloc _ _ _ (by omega)) (Below.heap_alloc _ _ _ (by omega)), ha.keep (keep5 _ _ hal (by omega)), ⟨lo, hlo.keep (keep5 _ _ (by omega) (by omega)), hO⟩, (show PSet wr M0 _ from ⟨lm, hlm, hM⟩).keep (keep5 _ _ (by have := hlm.lt; omega) (by omega)) |>.iff (fun p => ?_), fun p hp => hsub p (mem_left_keys.1 hp).1, ⟨hg4.os.trans hbx.os, hg4.tape.trans hbx.tape, hg4.output.trans hbx.output, by have := hbx.size; rw [World.size_alloc]; omega, fun i hi => (keep5 _ i (by have := hbx.size; omega) (by omega)).trans (hbx.block i hi)⟩, by rw [World.size_alloc]; omega, by omega⟩
          rw [mem_left_keys]
          constructor
          · rintro ⟨⟨h1, h2⟩, h3⟩
            exact ⟨⟨h1, fun h => h2 h.1⟩, h3⟩
          · rintro ⟨⟨h1, h2⟩, h3⟩
            exact ⟨⟨h1, fun h => h2 ⟨h, fun e => h3 (by rw [e]; exact hyO)⟩⟩, h3⟩
  · rintro act W ⟨o, la, O, L, ha, ho, hla, hinv, hbw, hno, u1, u2, u5, u6, u7, u8, u9, u10, u11, u12, u13, u14, u15, u16, u17, u18, u19, u20, u21, u22, u23, u24, u25, u26, u27, u28, u29, u30, u31, u32, u33, u34, u35, u36, u37, u38, rfl⟩
    obtain ⟨W0, hW0⟩ : ∃ W0, W.alloc (.map #[] 0) = W0 := ⟨_, rfl⟩
    have hmore : PSet W0 W.heap.size (fun _ => False) := by rw [← hW0]; exact ⟨[], Ents.made encP W, fun p => by simp⟩
    have ha0 : PSet W0 a A := by rw [← hW0]; exact ha.alloc _
    have hoW : PSet W o O := ho
    have ho0 : PSet W0 o O := by rw [← hW0]; exact ho.alloc _
    have hl0 : PSet W0 la L := by rw [← hW0]; exact hla.alloc _
    have hb0 : Below w.heap.size w W0 := by rw [← hW0]; exact hbw.alloc hbw.size _
    have hs0 : W0.heap.size = W.heap.size + 1 := by rw [← hW0]; simp
    have hbeh := behind_calls la a L A T W0 hl0 ha0 hT hTl
    go_wp2_with (first
      | (go_at_call 48; (try rw [hW0]); refine hbeh.mono ?_; rintro e w2 ⟨c, rfl, hc1, ⟨lc, hlc, hC⟩, hb2⟩)
      | (at_range; refine wpl_range _ rfl _ 62 3 rfl und62 c lc rfl hlc ?_; intro w3 hi3 hg3 hs3))
    go_frame
    obtain ⟨M0, hM0⟩ : ∃ M0, W.heap.size = M0 := ⟨_, rfl⟩
    obtain ⟨r, hr⟩ : ∃ r, w2.heap.size = r := ⟨_, rfl⟩
    rw [hr] at hi3 hs3 ⊢
    rw [hM0] at hmore hs0 ⊢
    have hb3 : Below W0.heap.size W0 w3 := hb2.trans ⟨hg3.os, hg3.tape, hg3.output, by omega, fun i hi => hg3.block i (by have := hb2.size; omega) (by simp)⟩
    have hcl := hlc.lt
    have ha3 := ha0.below hb3
    have ho3 := ho0.below hb3
    have hm3 := hmore.below hb3
    have hb3w := hb0.trans (hb3.mono hb0.size)
    have hom : o ≠ M0 := by have := ho.lt; omega
    have ham : a ≠ M0 := by have := ha.lt; omega
    have holt := ho0.lt
    have halt := ha0.lt
    have hmlt := hmore.lt
    have hcM : M0 < c := by omega
    have hrc : c < r := by omega
    clear hbeh hW0 hM0 hr hg3 hb3 hl0 ha0 ho0 hb0 hb2 hmore ha ho hla hlc
    go_loopg [] (lc.length + 1) (fun gf wx => ∃ left, Iter encP wx r c left ∧ PSet wx a A ∧ PSet wx o O ∧ PSet wx M0 (fun p => (behindP L A p ∧ p ∉ left.map Prod.fst) ∧ ¬ O p) ∧ (∀ p ∈ left.map Prod.fst, behindP L A p) ∧ Below w.heap.size w wx ∧ r + 1 ≤ wx.heap.size ∧ left.length < gf)
    case atStart => exact ⟨lc, hi3, ha3, ho3, hm3.iff (fun p => ⟨fun h => h.elim, fun h => h.1.2 ((hC p).2 h.1.1)⟩), fun p hp => (hC p).1 hp, hb3w, by omega, by omega⟩
    case round =>
      clear hi3 ha3 ho3 hm3 hb3w
      obtain ⟨left, hI, ha, ho, ⟨lm, hlm, hM⟩, hsub, hbx, hsz, hfu⟩ := hrel
      obtain ⟨g', rfl⟩ : ∃ g', gk = g' + 1 := ⟨gk - 1, by omega⟩
      obtain ⟨lo, hlo, hO⟩ := ho
      have hlts := hI.lts
      go_wp2_with (first
        | (at_next; refine wpl_nextP _ rfl _ rfl r c left rfl hI ?_ ?_; rotate_left; (intro x y v hx w4 hi4 hg4 hs4 hen4; have hlo4 : ∀ o', Ents encP (w4.alloc o') o lo := fun o' => hlo.keep ((Below.heap_alloc _ _ _ (by omega)).trans (hg4.block o (by omega) (fun e => by have := Option.some.inj e; omega))); have hlm4 : ∀ o', Ents encP (w4.alloc o') M0 lm := fun o' => hlm.keep ((Below.heap_alloc _ _ _ (by omega)).trans (hg4.block M0 (by omega) (fun e => by have := Option.some.inj e; omega))); obtain ⟨vv, hvv⟩ : ∃ vv, (Pm.val? (x, y) lo).getD (Value.int .i64 0) = vv := ⟨_, rfl⟩; obtain ⟨bb, hbb⟩ : ∃ bb, (Pm.val? (x, y) lo).isSome = bb := ⟨_, rfl⟩); rotate_left; intro h0)
        | (refine wpl_lookup _ keyP rfl _ _ 62 3 true rfl und62 (.int .i64 0) (zero3 _) o lo rfl (hlo4 _) (x, y) rfl ?_; simp only [if_true]; rw [hvv, hbb])
        | (refine wpl_update _ keyP rfl _ _ _ 62 3 rfl und62 M0 lm rfl (hlm4 _) (x, y) (.int .i64 1) rfl rfl ?_; intro w5 he5 hg5 hs5)
        | (at_len; refine wpl_len _ rfl _ 62 3 rfl und62 M0 lm rfl hlm ?_)
        | (go_at_call 46; refine (both_calls o M0 O _ _ ⟨lo, hlo, hO⟩ ⟨lm, hlm, hM⟩).mono ?_; rintro e w9 ⟨o9, rfl, ho9, hP9, hb9⟩))
      · subst h0
        have hz : lm = [] := List.length_eq_zero_iff.1 (by first | omega | (rename_i hq; simp at hq; simp [hq]))
        subst hz
        have hempty : ∀ p, behindP L A p → O p := fun p hp => Classical.byContradiction fun hn => by
          have := (hM p).2 ⟨⟨hp, by simp⟩, hn⟩
          simp at this
        try simp only [Exit.jump]
        go_ret
        exact ⟨o, rfl, hno, (show PSet _ o O from ⟨lo, hlo, hO⟩).iff (fun p => hinv.done hempty p), hbx⟩
      · subst h0
        have hne : ∃ q, q ∈ lm := by
          cases lm with
          | nil => exfalso; rename_i hq; simp at hq
          | cons q lm => exact ⟨q, List.mem_cons_self⟩
        obtain ⟨q, hq⟩ := hne
        have hMq := (hM q.1).1 (List.mem_map_of_mem (f := Prod.fst) hq)
        have hM' : ∀ p, ((behindP L A p ∧ p ∉ ([] : List (Pr × Value)).map Prod.fst) ∧ ¬ O p) ↔ behindP L A p ∧ ¬ O p := fun p => by simp
        go_step3
        have hJ : PSet w9 a A ∧ PSet w9 o9 (fun p => O p ∨ (behindP L A p ∧ ¬ O p)) ∧ PSet w9 M0 (fun p => behindP L A p ∧ ¬ O p) ∧ AInv A (fun p => O p ∨ (behindP L A p ∧ ¬ O p)) (fun p => behindP L A p ∧ ¬ O p) ∧ Below w.heap.size w w9 ∧ w.heap.size ≤ o9 :=
          ⟨ha.below hb9, hP9.iff (fun p => or_congr Iff.rfl (hM' p)), (show PSet wr M0 _ from ⟨lm, hlm, hM⟩).iff hM' |>.below hb9, hinv.next, hbx.trans (hb9.mono hbx.size), by have := hbx.size; omega⟩
        exact ⟨rfl, ⟨o9, M0, _, _, hJ.1, hJ.2.1, hJ.2.2.1, hJ.2.2.2.1, hJ.2.2.2.2.1, hJ.2.2.2.2.2, by (repeat apply Exists.intro); rfl⟩, lack_lt hoW hJ.2.1 (fun _ h => .inl h) (tm_in hT (hinv.next.only _ (.inr ((hM' _).1 hMq)))) hMq.2 (.inr ((hM' _).1 hMq))⟩
      · have hnO : ¬ O (x, y) := fun h => by
          have hq := val_some (l := lo) ((hO (x, y)).2 h)
          rw [hbb] at hq
          rename (!bb) = true => hq2
          rw [hq] at hq2
          cases hq2
        have hxy : (x, y) ∈ left.map Prod.fst := List.mem_map_of_mem (f := Prod.fst) hx
        have hflt := (List.length_filter_lt_length_iff_exists (p := fun q : Pr × Value => decide (q.1 ≠ (x, y))) (l := left)).2 ⟨((x, y), v), hx, by simp⟩
        have hs5' : w5.heap.size = wr.heap.size + 1 := by rw [hs5, World.size_alloc, hs4]
        have keep4 : ∀ i, i < wr.heap.size → i ≠ M0 → w5.heap[i]? = w4.heap[i]? := fun i hi hn => (hg5.block i (by rw [World.size_alloc]; omega) (fun e => hn (Option.some.inj e))).trans (Below.heap_alloc _ _ _ (by omega))
        have keep5 : ∀ i, i < wr.heap.size → i ≠ M0 → i ≠ r → w5.heap[i]? = wr.heap[i]? := fun i hi hn hn2 => (keep4 i hi hn).trans (hg4.block i hi (fun e => hn2 (Option.some.inj e)))
        have hal := ha.lt
        go_roundg g'
        case measure => omega
        case rel =>
          refine ⟨_, hi4.keep (keep4 _ (by omega) (by omega)) (keep4 _ (by omega) (by omega)), ha.keep (keep5 _ hal ham (by omega)), ⟨lo, hlo.keep (keep5 _ (by omega) hom (by omega)), hO⟩, (PSet.put (x, y) (.int .i64 1) he5 hM).iff (fun p => ?_), fun p hp => hsub p (mem_left_keys.1 hp).1, ⟨hg5.os.trans (hg4.os.trans hbx.os), hg5.tape.trans (hg4.tape.trans hbx.tape), hg5.output.trans (hg4.output.trans hbx.output), by have := hbx.size; omega, fun i hi => (keep5 i (by have := hbx.size; omega) (by omega) (by omega)).trans (hbx.block i hi)⟩, by omega, by omega⟩
          rw [mem_left_keys]
          constructor
          · rintro (rfl | ⟨⟨h1, h2⟩, h3⟩)
            · exact ⟨⟨hsub _ hxy, fun h => h.2 rfl⟩, hnO⟩
            · exact ⟨⟨h1, fun h => h2 h.1⟩, h3⟩
          · rintro ⟨⟨h1, h2⟩, h3⟩
            by_cases e : p = (x, y)
            · exact .inl e
            · exact .inr ⟨⟨h1, fun h => h2 ⟨h, e⟩⟩, h3⟩
      · have hyO : O (x, y) := (hO (x, y)).1 (Classical.byContradiction fun h => by
          have hq := val_nil (l := lo) h
          rw [hq] at hbb
          rename (!bb) = false => hq2
          rw [← hbb] at hq2
          cases hq2)
        have hxy : (x, y) ∈ left.map Prod.fst := List.mem_map_of_mem (f := Prod.fst) hx
        have hflt := (List.length_filter_lt_length_iff_exists (p := fun q : Pr × Value => decide (q.1 ≠ (x, y))) (l := left)).2 ⟨((x, y), v), hx, by simp⟩
        have keep5 : ∀ (o' : Obj) i, i < wr.heap.size → i ≠ r → (w4.alloc o').heap[i]? = wr.heap[i]? := fun o' i hi hn2 => (Below.heap_alloc _ _ _ (by omega)).trans (hg4.block i hi (fun e => hn2 (Option.some.inj e)))
        have hal := ha.lt
        go_roundg g'
        case measure => omega
        case rel =>
          refine ⟨_, hi4.keep (Below.heap_alloc _ _ _ (by omega)) (Below.heap_alloc _ _ _ (by omega)), ha.keep (keep5 _ _ hal (by omega)), ⟨lo, hlo.keep (keep5 _ _ (by omega) (by omega)), hO⟩, (show PSet wr M0 _ from ⟨lm, hlm, hM⟩).keep (keep5 _ _ (by have := hlm.lt; omega) (by omega)) |>.iff (fun p => ?_), fun p hp => hsub p (mem_left_keys.1 hp).1, ⟨hg4.os.trans hbx.os, hg4.tape.trans hbx.tape, hg4.output.trans hbx.output, by have := hbx.size; rw [World.size_alloc]; omega, fun i hi => (keep5 _ i (by have := hbx.size; omega) (by omega)).trans (hbx.block i hi)⟩, by rw [World.size_alloc]; omega, by omega⟩
          rw [mem_left_keys]
          constructor
          · rintro ⟨⟨h1, h2⟩, h3⟩
            exact ⟨⟨h1, fun h => h2 h.1⟩, h3⟩
          · rintro ⟨⟨h1, h2⟩, h3⟩
            exact ⟨⟨h1, fun h => h2 ⟨h, fun e => h3 (by rw [e]; exact hyO)⟩⟩, h3⟩
end
end Go.Proofs.Ytaeiikielelicaa.Pt
