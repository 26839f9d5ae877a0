/- The maps of path: maps.Keys and what it hands back, slices.AppendSeq, slices.Collect. -/
import Derived.Test.YtaeiikielelicaaPtOf2
import Derived.Sort.MapsRangeIn
import Derived.RangeFuncNested
import Derived.RangeFuncBound
import Derived.RangeFuncCalls
import Derived.RangeFuncLeaves
import Derived.RangeFuncBox
import Derived.Shelf.Abstract
import Derived.OwnWalkIn
import Derived.TacticsInMore
import Derived.LoopNIn
import Derived.LoopIn
import Derived.Sort.LoopGhostIn
set_option linter.unusedVariables false
set_option linter.unusedSimpArgs false
set_option linter.unusedSectionVars false
set_option linter.deprecated false
namespace Go.Proofs.Ytaeiikielelicaa.Pt
open Go.RowKit Go.Shelf Go.Proofs
open Pm
attribute [local go_sem] Oper.semAt_some
set_option linter.unusedVariables false
set_option linter.unusedSimpArgs false
noncomputable section
section
variable {α : Type} [DecidableEq α] {enc : α → Value} {kt : TypeId} {F : Fence} {n : Nat} {P : Program} (w : World) {ops : Array Oper} {rest : List Oper} {o : Oper} {a : Act} {Q : Exit → Act → World → Prop}
theorem wplIn_range (hg : o.guard = none) (m : Operand) (mt et : TypeId) (hop : o.op = Op.range mt m) (ht : P.underlying mt = some (.map kt et)) (b : Nat) (l : List (α × Value)) (hm : a.eval m = .map (some b)) (h : Ents enc w b l)
    (hK : ∀ w', Iter enc w' w.heap.size b l → w.grownBy w' none → w'.heap.size = w.heap.size + 1 → wpListIn F n P ops Q rest (a.put o.dst (.pointer (some ⟨w.heap.size, 0, none⟩))) w') :
    wpListIn F n P ops Q (o :: rest) a w := by
  refine wpListIn_plain hg fun K' hK' => ?_
  obtain ⟨w', hrun, r1, r2, r3⟩ := range_run ht h
  unfold Oper.wpIn
  refine ⟨by simp [Oper.about, hop], ?_⟩
  rw [Oper.semAt_plain F _ _ (by rw [hop]; intro c hc'; cases hc')]
  simp [execOp, hop, hm, hrun, Result.andThen]
  exact hK' _ _ (hK w' r1 r2 r3)
theorem wplIn_nextP (hg : o.guard = none) (it : Operand) (hop : o.op = Op.next it false) (r b : Nat) (left : List (Pr × Value)) (hit : a.eval it = .pointer (some ⟨r, 0, none⟩)) (h : Iter encP w r b left)
    (hDone : left = [] → wpListIn F n P ops Q rest (a.put o.dst (.tuple #[.bool false])) w)
    (hMore : ∀ (x y : Tm) (v : Value), ((x, y), v) ∈ left → ∀ w', Iter encP w' r b (left.filter fun q => decide (q.1 ≠ (x, y))) → w.grownBy w' (some r) → w'.heap.size = w.heap.size → (Instr.entry (.pointer (some ⟨r, 0, none⟩))).run P w' = .ok (.tuple #[.agg #[.int .i64 x.kind, .string x.s, .string x.lang, .string x.ty, .int .i64 y.kind, .string y.s, .string y.lang, .string y.ty], v]) w' →
      wpListIn F n P ops Q rest (a.put o.dst (.tuple #[.bool true, .agg #[.int .i64 x.kind, .string x.s, .string x.lang, .string x.ty, .int .i64 y.kind, .string y.s, .string y.lang, .string y.ty], v])) w') :
    wpListIn F n P ops Q (o :: rest) a w := by
  refine wpListIn_plain hg fun K' hK' => ?_
  unfold Oper.wpIn
  refine ⟨by simp [Oper.about, hop], ?_⟩
  rw [Oper.semAt_plain F _ _ (by rw [hop]; intro c hc'; cases hc')]
  rcases next_run (P := P) h o.type with ⟨h0, hrun⟩ | ⟨⟨⟨x, y⟩, v⟩, hp, w', hrun, h1, h2, h3, h4⟩
  · simp [execOp, hop, hit, hrun, Result.andThen]
    exact hK' _ _ (hDone h0)
  · simp [execOp, hop, hit, hrun, Result.andThen]
    exact hK' _ _ (hMore x y v hp w' h1 h2 h3 h4)
end
theorem iter_walks {W W' : World} {r b : Nat} {left : List (Pr × Value)} (h : Iter encP W r b left) (hk : KeepsWalks W W') : Iter encP W' r b left := by
  obtain ⟨es, clock, since, seen, c0, h1, h2, hr⟩ := h
  exact ⟨es, clock, since, seen, c0, hk.same _ _ h1 rfl, hk.same _ _ h2 rfl, hr⟩
theorem _root_.Go.Proofs.Ytaeiikielelicaa.Pm.Iter.isWalk {W : World} {r b : Nat} {left : List (Pr × Value)} (h : Iter encP W r b left) : ∃ o : Obj, W.heap[r]? = some o ∧ o.isWalk = true := by
  obtain ⟨es, clock, since, seen, c0, h1, h2, hr⟩ := h
  exact ⟨_, h2, rfl⟩
set_option maxRecDepth 100000 in
set_option maxHeartbeats 2000000 in
/-- the keys come, each once. -/
theorem keys1_in (F : Fence) (n : Nat) (hf : F.fn 45) (hro : F.round = none) (hn : 1 ≤ n) (l Bm b : Nat) (L : List (Pr × Value)) (J Jx : List Pr → World → Prop) (W : World) (hJ : AbidesFrom W.heap.size J)
    (hY : ∀ pre x W1, J pre W1 → pre.length < L.length → YieldAt F (n - 1) Try.prog l #[encP x] W1 fun e W' =>
      (e = .returned (.bool true) ∧ J (pre ++ [x]) W' ∧ KeepsWalks W1 W') ∨ (e = .returned (.bool false) ∧ Jx (pre ++ [x]) W'))
    (hm : W.cell? ⟨Bm, 0, none⟩ = some (.map (some b))) (hE : Ents encP W b L) (h0 : J [] W) :
    CallsIn F n Try.prog 45 #[.func (.yield l) #[] #[], .pointer (some ⟨Bm, 0, none⟩)] W fun e W' => (∃ v, e = .returned v) ∧
      ((∃ ys, (ys.Nodup ∧ ∀ p, p ∈ ys ↔ p ∈ L.map Prod.fst) ∧ J ys W') ∨ (∃ pre, True ∧ Jx pre W')) := by
  have hlt := hE.lt
  refine callsIn_of_wp Try.func45 rfl hf ?_ hro
  simp only [Try.ntmps45, List.size_toArray, List.length_cons, List.length_nil, Nat.reduceAdd, Nat.reduceSub, Array.replicate_succ, Array.replicate_zero, List.push_toArray, List.append_toArray, List.nil_append, List.cons_append]
  gi_wp2_with (gi_at_range; refine wplIn_range _ rfl _ 62 3 rfl und62 b L rfl hE ?_; intro w1 hi1 hg1 hs1)
  go_frame
  have hJ1 : J [] w1 := hJ [] W w1 none h0 hg1 (fun r e => by cases e)
  gi_loopg [] (L.length + 1) (fun gf wr => ∃ left ys, Iter encP wr W.heap.size b left ∧ J ys wr ∧ ys.length + left.length ≤ L.length ∧ (∀ p, p ∈ ys ∨ p ∈ left.map Prod.fst ↔ p ∈ L.map Prod.fst) ∧ (ys.Nodup ∧ ∀ p ∈ ys, p ∉ left.map Prod.fst) ∧ left.length < gf)
  case atStart => exact ⟨L, [], hi1, hJ1, by simp, fun p => by simp, ⟨List.nodup_nil, fun p h => by simp at h⟩, by omega⟩
  case round =>
    clear hJ1 hi1 hg1 hs1 h0 hm hE
    obtain ⟨left, ys, hI, hJs, hlen, hmem, ⟨hnd, hap⟩, hfu⟩ := hrel
    obtain ⟨g', rfl⟩ : ∃ g', gk = g' + 1 := ⟨gk - 1, by omega⟩
    have hlts := hI.lts
    gi_wp2_with (first
      | (gi_at_next; refine wplIn_nextP _ rfl _ rfl W.heap.size b left rfl hI ?_ ?_; rotate_left; (intro x y v hx w2 hi2 hg2 hs2 hen2); rotate_left; intro h0)
      | gi_in)
    · gi_wp2
      go_end0
      subst h0
      exact ⟨⟨_, rfl⟩, .inl ⟨ys, ⟨hnd, fun p => by rw [← hmem]; simp⟩, hJs⟩⟩
    · have hflt := (List.length_filter_lt_length_iff_exists (p := fun q : Pr × Value => decide (q.1 ≠ (x, y))) (l := left)).2 ⟨((x, y), v), hx, by simp⟩
      have hJ2 : J ys (w2.alloc (.cells #[.int .i64 x.kind, .string x.s, .string x.lang, .string x.ty, .int .i64 y.kind, .string y.s, .string y.lang, .string y.ty] 48)) := hJ ys _ _ none (hJ ys wr w2 (some W.heap.size) hJs hg2 (fun r e => by cases e; exact ⟨Nat.le_refl _, hI.isWalk⟩)) (World.grownBy_alloc _ _ none) (fun r e => by cases e)
      have hi3 := iter_walks hi2 (KeepsWalks.alloc w2 (.cells #[.int .i64 x.kind, .string x.s, .string x.lang, .string x.ty, .int .i64 y.kind, .string y.s, .string y.lang, .string y.ty] 48))
      obtain ⟨fn, tmps, assign, body, hy, hR⟩ := hY ys (x, y) _ hJ2 (by have := List.length_pos_of_mem hx; omega)
      dsimp only [encP] at hy
      clear hs2 hY
      gi_wp2
      rw [hy]
      gi_wp2
      refine hR.mono ?_
      rintro e W3 (⟨rfl, hJ3, hk3⟩ | ⟨rfl, hJx3⟩)
      · gi_wp2
        have hi4 := iter_walks hi3 hk3
        gi_roundg g'
        case measure => omega
        case rel =>
          refine ⟨_, ys ++ [(x, y)], hi4, hJ3, (by rw [List.length_append, List.length_singleton]; omega), fun p => ?_, ⟨?_, fun p hp => ?_⟩, by omega⟩
          rotate_left
          · rw [List.nodup_append]
            refine ⟨hnd, by simp, fun p hp q hq e => ?_⟩
            rw [List.mem_singleton.1 hq] at e
            exact hap p hp (by rw [e]; exact List.mem_map_of_mem (f := Prod.fst) hx)
          · rw [mem_left_keys]
            rcases List.mem_append.1 hp with h | h
            · exact fun e => hap p h e.1
            · exact fun e => e.2 (List.mem_singleton.1 h)
          rw [← hmem p, mem_left_keys, List.mem_append, List.mem_singleton]
          by_cases hp : p = (x, y)
          · subst hp
            exact ⟨fun _ => .inr (List.mem_map_of_mem (f := Prod.fst) hx), fun _ => .inl (.inr rfl)⟩
          · simp [hp]
      · gi_wp2
        refine bodyPost_ret (results_none rfl _ _ _) rfl ?_
        exact ⟨⟨_, rfl⟩, .inr ⟨_, trivial, hJx3⟩⟩
set_option maxHeartbeats 1000000 in
/-- maps.Keys: the map is boxed; the function value captures the box. -/
theorem keys_in (F : Fence) (n : Nat) (hf : F.fn 27) (hro : F.round = none) (b : Nat) (w : World) :
    CallsIn F n Try.prog 27 #[.map (some b)] w fun e w' => e = .returned (.func (.func 45) #[] #[.pointer (some ⟨w.heap.size, 0, none⟩)]) ∧ w' = w.alloc (.cells #[.map (some b)] 62) := by
  refine callsIn_of_wp Try.func27 rfl hf ?_ hro
  simp only [Try.ntmps27, List.size_toArray, List.length_cons, List.length_nil, Nat.reduceAdd, Nat.reduceSub, Array.replicate_succ, Array.replicate_zero, List.push_toArray, List.append_toArray, List.nil_append, List.cons_append]
  gi_wp2
  go_ret
  exact ⟨rfl, rfl⟩
theorem keys_stops (F : Fence) (n : Nat) (hf : F.fn 45) (hro : F.round = none) (hn : 1 ≤ n) (Bm b : Nat) (L : List (Pr × Value)) (w : World) (hB : Bm < w.heap.size) (hc : w.cell? ⟨Bm, 0, none⟩ = some (.map (some b))) (hE : Ents encP w b L) :
    SeqStopsK F n Try.prog 45 #[.pointer (some ⟨Bm, 0, none⟩)] (fun x : Pr => #[encP x]) KeepsWalks (fun ys => ys.Nodup ∧ ∀ p, p ∈ ys ↔ p ∈ L.map Prod.fst) (fun _ => True) L.length w := fun l J Jx W hW hJ _ hY h0 =>
  keys1_in F n hf hro hn l Bm b L J Jx W hJ hY ((hW.cell (p := ⟨Bm, 0, none⟩) hB).trans hc) (hE.below hW) h0
end
end Go.Proofs.Ytaeiikielelicaa.Pt
