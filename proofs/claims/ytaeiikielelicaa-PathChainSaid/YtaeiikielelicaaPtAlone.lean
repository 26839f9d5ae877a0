/- The maps of path: ways of one other way. -/
import Derived.Test.YtaeiikielelicaaPtAgain
set_option linter.unusedVariables false
set_option linter.unusedSimpArgs false
set_option linter.unusedSectionVars false
set_option linter.deprecated false
namespace Go.Proofs.Ytaeiikielelicaa.Pt
open Go.RowKit Go.Proofs Go.Am
open Pm
set_option maxRecDepth 1000000
set_option linter.unusedVariables false
set_option linter.unusedSimpArgs false
noncomputable section
def aloneP (op : Int) (G : List T3) (A : Pr → Prop) (p : Pr) : Prop :=
  if op = 2 then A (p.2, p.1) else if op = 5 then plusP A p ∨ sameL G p else if op = 6 then plusP A p else if op = 7 then A p ∨ sameL G p else False
def AloneOk (v : Value) (G : List T3) (op : Int) (a : Nat) (A : Pr → Prop) (w : World) : Prop :=
  Calls Try.prog 49 #[v, .int .i64 op, .map (some a)] w fun e w' => ∃ c, e = .returned (.map (some c)) ∧ w.heap.size ≤ c ∧ PSet w' c (aloneP op G A) ∧ Below w.heap.size w w'
set_option maxHeartbeats 4000000 in
theorem alone_inv (v : Value) (G : List T3) (a : Nat) (A : Pr → Prop) (w : World) (ha : PSet w a A) : AloneOk v G 2 a A w := by
  obtain ⟨la, hla, hA⟩ := ha
  have hmk2 := make62
  unfold AloneOk aloneP
  simp only [if_true]
  have hla1 : Ents encP (w.alloc (.map #[] 0)) a la := hla.keep (Below.heap_alloc _ _ _ hla.lt)
  go_enter Try.func49, Try.ntmps49
  go_wp2_with (at_range; refine wpl_range _ rfl _ 62 3 rfl und62 a la rfl hla1 ?_; intro w1 hi1 hg1 hs1)
  go_frame
  have hzl := hla.lt
  rw [World.size_alloc] at hs1
  simp only [World.size_alloc] at hi1 ⊢
  have hb1 : Below w.heap.size w w1 := ⟨hg1.os, hg1.tape, hg1.output, by omega, fun i hi => (hg1.block i (by simp; omega) (by simp)).trans (Below.heap_alloc _ _ _ hi)⟩
  have hP1 : PSet w1 w.heap.size (fun p => A (p.2, p.1) ∧ (p.2, p.1) ∉ la.map Prod.fst) := ⟨[], (Ents.made encP w).keep (hg1.block _ (by simp) (by simp)), fun p => ⟨fun h => by simp at h, fun h => absurd ((hA _).2 h.1) h.2⟩⟩
  go_loopg [] (la.length + 1) (fun gf wx => ∃ left, Iter encP wx (w.heap.size + 1) a left ∧ PSet wx w.heap.size (fun p => A (p.2, p.1) ∧ (p.2, p.1) ∉ left.map Prod.fst) ∧ (∀ p ∈ left.map Prod.fst, A p) ∧ Below w.heap.size w wx ∧ w.heap.size + 2 ≤ wx.heap.size ∧ left.length < gf)
  case atStart => exact ⟨la, hi1, hP1, fun p hp => (hA p).1 hp, hb1, by omega, by omega⟩
  case round =>
    clear hi1 hP1 hb1 hg1 hs1 hla1
    obtain ⟨left, hI, ⟨l, hl, hS⟩, hsub, hbw, hsz, hfu⟩ := hrel
    obtain ⟨g', rfl⟩ : ∃ g', gk = g' + 1 := ⟨gk - 1, by omega⟩
    have hlts := hI.lts
    go_wp2_with (first
      | (at_next; refine wpl_nextP _ rfl _ rfl (w.heap.size + 1) a left rfl hI ?_ ?_; rotate_left; (intro x y v hx w2 hi2 hg2 hs2 hen2; have hl2 : ∀ o, Ents encP (w2.alloc o) w.heap.size l := fun o => hl.keep ((Below.heap_alloc _ _ _ (by omega)).trans (hg2.block _ (by omega) (fun e => by have := Option.some.inj e; omega)))); rotate_left; intro h0)
      | (refine wpl_update _ keyP rfl _ _ _ 62 3 rfl und62 w.heap.size l rfl (hl2 _) (y, x) (.int .i64 1) rfl rfl ?_; intro w3 he3 hg3 hs3))
    · go_ret
      subst h0
      exact ⟨_, rfl, Nat.le_refl _, (show PSet wr _ _ from ⟨l, hl, hS⟩).iff (fun p => by simp), hbw⟩
    · have hxy : (x, y) ∈ left.map Prod.fst := List.mem_map_of_mem (f := Prod.fst) hx
      have hflt := (List.length_filter_lt_length_iff_exists (p := fun q : Pr × Value => decide (q.1 ≠ (x, y))) (l := left)).2 ⟨((x, y), v), hx, by simp⟩
      have hs3' : w3.heap.size = wr.heap.size + 1 := by rw [hs3, World.size_alloc, hs2]
      have keep4 : ∀ i, i < wr.heap.size → i ≠ w.heap.size → w3.heap[i]? = w2.heap[i]? := fun i hi hn => (hg3.block i (by rw [World.size_alloc]; omega) (fun e => hn (Option.some.inj e))).trans (Below.heap_alloc _ _ _ (by omega))
      go_roundg g'
      case measure => omega
      case rel =>
        refine ⟨_, hi2.keep (keep4 _ (by omega) (by omega)) (keep4 _ (by omega) (by omega)), (PSet.put (y, x) (.int .i64 1) he3 hS).iff (fun p => ?_), fun p hp => hsub p (mem_left_keys.1 hp).1, ⟨hg3.os.trans (hg2.os.trans hbw.os), hg3.tape.trans (hg2.tape.trans hbw.tape), hg3.output.trans (hg2.output.trans hbw.output), by have := hbw.size; omega, fun i hi => (keep4 i (by omega) (by omega)).trans ((hg2.block i (by omega) (fun e => by have := Option.some.inj e; omega)).trans (hbw.block i hi))⟩, by omega, by omega⟩
        rw [mem_left_keys]
        constructor
        · rintro (rfl | ⟨h1, h2⟩)
          · exact ⟨hsub _ hxy, fun h => h.2 rfl⟩
          · exact ⟨h1, fun h => h2 h.1⟩
        · rintro ⟨h1, h2⟩
          by_cases e : (p.2, p.1) = (x, y)
          · obtain ⟨e1, e2⟩ := Prod.mk.inj e
            exact .inl (Prod.ext e2 e1)
          · exact .inr ⟨h1, fun h => h2 ⟨h, e⟩⟩
theorem alone_plus (v : Value) (G : List T3) (a : Nat) (A : Pr → Prop) (T : List Tm) (w : World) (ha : PSet w a A) (hT : ∀ p, A p → p.1 ∈ T ∧ p.2 ∈ T) (hTl : T.length ≤ 1000) : AloneOk v G 6 a A w := by
  unfold AloneOk aloneP
  have e : ∀ p, (if (6 : Int) = 2 then A (p.2, p.1) else if (6 : Int) = 5 then plusP A p ∨ sameL G p else if (6 : Int) = 6 then plusP A p else if (6 : Int) = 7 then A p ∨ sameL G p else False) ↔ plusP A p := fun p => by simp
  have hc := again_calls a A T w ha hT hTl
  go_enter Try.func49, Try.ntmps49
  go_wp2_with (go_at_call 59; refine hc.mono ?_; rintro e w1 ⟨c, rfl, h1, h2, h3⟩)
  go_ret
  exact ⟨c, rfl, h1, h2.iff (fun p => (e p).symm), h3⟩
theorem alone_opt (v : Value) (G : List T3) (a : Nat) (A : Pr → Prop) (w : World) (ha : PSet w a A) (hG : GOk w v G) (hn : G.length ≤ 100000) : AloneOk v G 7 a A w := by
  unfold AloneOk aloneP
  have e : ∀ p, (if (7 : Int) = 2 then A (p.2, p.1) else if (7 : Int) = 5 then plusP A p ∨ sameL G p else if (7 : Int) = 6 then plusP A p else if (7 : Int) = 7 then A p ∨ sameL G p else False) ↔ A p ∨ sameL G p := fun p => by simp
  have hs := same_calls v G w hG hn
  go_enter Try.func49, Try.ntmps49
  go_wp2_with (first
    | (go_at_call 60; refine hs.mono ?_; rintro e w1 ⟨c, rfl, h1, h2, h3⟩)
    | (go_at_call 46; refine (both_calls a c A (sameL G) w1 (ha.below h3) h2).mono ?_; rintro e w2 ⟨d, rfl, h4, h5, h6⟩))
  go_ret
  exact ⟨d, rfl, by have := h3.size; omega, h5.iff (fun p => (e p).symm), h3.trans (h6.mono h3.size)⟩
theorem alone_star (v : Value) (G : List T3) (a : Nat) (A : Pr → Prop) (T : List Tm) (w : World) (ha : PSet w a A) (hG : GOk w v G) (hn : G.length ≤ 100000) (hT : ∀ p, A p → p.1 ∈ T ∧ p.2 ∈ T) (hTl : T.length ≤ 1000) : AloneOk v G 5 a A w := by
  unfold AloneOk aloneP
  have e : ∀ p, (if (5 : Int) = 2 then A (p.2, p.1) else if (5 : Int) = 5 then plusP A p ∨ sameL G p else if (5 : Int) = 6 then plusP A p else if (5 : Int) = 7 then A p ∨ sameL G p else False) ↔ plusP A p ∨ sameL G p := fun p => by simp
  have hc := again_calls a A T w ha hT hTl
  go_enter Try.func49, Try.ntmps49
  go_wp2_with (first
    | (go_at_call 59; refine hc.mono ?_; rintro e w1 ⟨c, rfl, h1, h2, h3⟩)
    | (go_at_call 60; refine (same_calls v G w1 (hG.below h3) hn).mono ?_; rintro e w2 ⟨d, rfl, h4, h5, h6⟩)
    | (go_at_call 46; refine (both_calls c d _ _ w2 (h2.below h6) h5).mono ?_; rintro e w3 ⟨f, rfl, h7, h8, h9⟩))
  go_ret
  exact ⟨f, rfl, by have := h3.size; have := h6.size; omega, h8.iff (fun p => (e p).symm), h3.trans ((h6.trans (h9.mono h6.size)).mono h3.size)⟩
theorem alone_none (v : Value) (G : List T3) (op : Int) (a : Nat) (A : Pr → Prop) (w : World) (h2 : op ≠ 2) (h5 : op ≠ 5) (h6 : op ≠ 6) (h7 : op ≠ 7) : AloneOk v G op a A w := by
  unfold AloneOk aloneP
  simp only [h2, h5, h6, h7, if_false]
  have hmk2 := make62
  have b2 : (op == 2) = false := beq_eq_false_iff_ne.2 h2
  have b5 : (op == 5) = false := beq_eq_false_iff_ne.2 h5
  have b6 : (op == 6) = false := beq_eq_false_iff_ne.2 h6
  have b7 : (op == 7) = false := beq_eq_false_iff_ne.2 h7
  go_enter Try.func49, Try.ntmps49
  go_wp2
  go_ret
  exact ⟨_, rfl, Nat.le_refl _, ⟨[], Ents.made encP w, fun p => by simp⟩, (Below.refl _ w).alloc (Nat.le_refl _) _⟩
end
end Go.Proofs.Ytaeiikielelicaa.Pt
