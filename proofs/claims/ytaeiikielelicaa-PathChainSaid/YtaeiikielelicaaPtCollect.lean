/- The keys collected: slices.AppendSeq, slices.Collect over what maps.Keys hands back. -/
import Derived.Test.YtaeiikielelicaaPtKeys
set_option linter.unusedVariables false
set_option linter.unusedSimpArgs false
set_option linter.unusedSectionVars false
set_option linter.deprecated false
namespace Go.Proofs.Ytaeiikielelicaa.Pt
open Go.RowKit Go.Shelf Go.Proofs
open Pm
attribute [local go_sem] Oper.semAt_some
set_option linter.unusedVariables false
set_option linter.unusedSimpArgs false
noncomputable section
theorem info48 : (Try.prog.info? 48).map (fun i => (i.zero, i.size, i.bytes)) = some (some (.agg #[.int .i64 0, .string ⟨#[]⟩, .string ⟨#[]⟩, .string ⟨#[]⟩, .int .i64 0, .string ⟨#[]⟩, .string ⟨#[]⟩, .string ⟨#[]⟩]), 8, 112) := by kernel_rfl
theorem und31 : Try.prog.underlying 31 = some (.slice 48) := by kernel_rfl
theorem cell_new (w : World) (l : List Value) (t : TypeId) : ∀ (j : Nat) u, l[j]? = some u → (w.alloc (.cells ⟨l⟩ t)).cell? ((⟨w.heap.size, 0, none⟩ : Addr).add j) = some u := by
  intro j u hj
  have e : (⟨w.heap.size, 0, none⟩ : Addr).add j = ⟨w.heap.size, j, none⟩ := by
    unfold Addr.add
    by_cases h0 : j = 0
    · simp [h0]
    · simp [h0]
  rw [e]
  unfold World.cell?
  rw [World.alloc_heap_new]
  simpa using hj
theorem oneP (x y : Tm) : ∀ v ∈ [Value.int .i64 x.kind, .string x.s, .string x.lang, .string x.ty, .int .i64 y.kind, .string y.s, .string y.lang, .string y.ty], v.oneCell' = true := by
  intro v h
  simp only [List.mem_cons, List.not_mem_nil, or_false] at h
  rcases h with rfl | rfl | rfl | rfl | rfl | rfl | rfl | rfl <;> rfl
theorem box8 {W : World} {B : Nat} {a b c d e f g h : Value} {t : TypeId} (hB : W.heap[B]? = some (.cells #[a, b, c, d, e, f, g, h] t)) :
    W.cell? ⟨B, 0, none⟩ = some a ∧ W.cell? ⟨B, 1, none⟩ = some b ∧ W.cell? ⟨B, 2, none⟩ = some c ∧ W.cell? ⟨B, 3, none⟩ = some d ∧ W.cell? ⟨B, 4, none⟩ = some e ∧ W.cell? ⟨B, 5, none⟩ = some f ∧ W.cell? ⟨B, 6, none⟩ = some g ∧ W.cell? ⟨B, 7, none⟩ = some h := by
  simp [World.cell?, hB]
set_option maxRecDepth 100000 in
set_option maxHeartbeats 4000000 in
theorem appendSeq_in (F : Fence) (n : Nat) (h54 : F.fn 54) (h45 : F.fn 45) (hro : F.round = none) (hn : 3 ≤ n) (Bm b : Nat) (L : List (Pr × Value)) (w : World) (hB : Bm < w.heap.size) (hc : w.cell? ⟨Bm, 0, none⟩ = some (.map (some b))) (hE : Ents encP w b L) (hL : L.length ≤ 1000000000) :
    CallsIn F n Try.prog 54 #[.slice none 0 0, .func (.func 45) #[] #[.pointer (some ⟨Bm, 0, none⟩)]] w fun e W' => ∃ (v : Value) (ys : List Pr), e = .returned v ∧ (ys.Nodup ∧ ∀ p, p ∈ ys ↔ p ∈ L.map Prod.fst) ∧ W'.ownsRow w.heap.size 48 8 v ys.length (ys.flatMap cP) ∧ Below w.heap.size w W' := by
  have h1 : 1 ≤ n := by omega
  obtain ⟨i0, hi, hz0, hz1, hz2⟩ := info_parts info48
  refine callsIn_of_wp_marks Try.func54 rfl h54 ?_ hro
  simp only [Try.ntmps54, List.size_toArray, List.length_cons, List.length_nil, Nat.reduceAdd, Nat.reduceSub, Array.replicate_succ, Array.replicate_zero, List.push_toArray, List.append_toArray, List.nil_append, List.cons_append]
  gi_wp2
  have bO := Boxed.new w 31 (.slice none 0 0)
  have hB0 : Below w.heap.size w (w.alloc (.cells #[.slice none 0 0] 31)) := (Below.refl _ w).alloc (Nat.le_refl _) _
  refine wpIn_rangeFunc_ownH hro h1 (gf := 45) (lb := #[.pointer (some ⟨Bm, 0, none⟩)]) rfl h45 (enters_of Try.func45 (by kernel_rfl) rfl)
    (keys_stops F (n - 1) h45 hro (by omega) Bm b L w hB hc hE) walksK_t walksK_b hB0 (fun _ => rfl)
    (fun pre W => (∃ v, Boxed W w.heap.size 31 v ∧ W.ownsRow w.heap.size 48 8 v pre.length (pre.flatMap cP) ∧ True) ∧ Below w.heap.size w W)
    (fun _ _ _ => False)
    (OwnFrom.and (Own.from (holdsRow_own w.heap.size w.heap.size 31 48 8 (fun pre : List Pr => pre.length) (fun pre => pre.flatMap cP) (fun _ _ => True)) _) (ownFrom_below (Nat.le_refl _) (by simp)))
    (fun _ _ _ _ _ hs _ _ => hs)
    ⟨⟨_, bO, World.ownsRow_nil _ _ _ _, trivial⟩, hB0⟩
    (fun x a' W => ∃ B', W.heap[B']? = some (.cells #[.int .i64 x.1.kind, .string x.1.s, .string x.1.lang, .string x.1.ty, .int .i64 x.2.kind, .string x.2.s, .string x.2.lang, .string x.2.ty] 48) ∧ w.heap.size ≤ B' ∧ a' = { tmps := #[.slice none 0 0, .func (.func 45) #[] #[.pointer (some ⟨Bm, 0, none⟩)], .pointer (some ⟨w.heap.size, 0, none⟩), undef, .slice none 0 0, .pointer (some ⟨B', 0, none⟩), .func (.func 45) #[] #[.pointer (some ⟨Bm, 0, none⟩)], encP x, undef, undef, undef, undef, undef], defers := [] }) ?ax ?assign ?body ?done ?stop
  case ax =>
    rintro ⟨x, y⟩ a' ⟨⟩ W W' row ⟨B', hB', h1, h2⟩ hg hr
    exact ⟨B', (hg.block B' (Array.getElem?_eq_some_iff.1 hB').1 (fun e => by obtain ⟨o, ho, hc⟩ := (hr B' e.symm).2; rw [hB'] at ho; cases ho; cases hc)).trans hB', h1, h2⟩
  case assign =>
    rintro l pre ⟨x, y⟩ W K ⟨⟨v, hv, hrow, -⟩, hB⟩ hK
    dsimp only [encP]
    gi_wp2
    exact hK _ _ ((KeepsOthers.alloc W _).from _) (KeepsWalks.alloc W _) ⟨⟨v, hv.alloc _, hrow.alloc _, trivial⟩, hB.alloc hB.size _⟩ ⟨W.heap.size, World.alloc_heap_new W _, hB.size, rfl⟩
  case body =>
    rintro l pre ⟨x, y⟩ a' W hl hr ⟨⟨v, hv, hrow, -⟩, hB⟩ ⟨B', hB', hB'w, rfl⟩ hlt
    have hvc := hv.cell
    have hlB := (Array.getElem?_eq_some_iff.1 hB').1
    have hpl : pre.length ≤ L.length := by omega
    obtain ⟨k0, k1, k2, k3, k4, k5, k6, k7⟩ := box8 hB'
    gi_wp2_with (gi_at_builtin; refine wpListIn_append_own _ rfl _ _ 31 rfl w.heap.size 48 i0 _ 8 112 und31 hi hz0 hz1 hz2 rfl (by decide) _ _ _ rfl (hrow.alloc _) ⟨W.heap.size, 0, none⟩ 1 1 [.int .i64 x.kind, .string x.s, .string x.lang, .string x.ty, .int .i64 y.kind, .string y.s, .string y.lang, .string y.ty] rfl rfl (cell_new _ _ _) (oneP x y) (by unfold maxLen; omega) (by omega) (by have := hB.size; simp; omega) ?_; intro v' w1 hown' hgrow _; obtain ⟨g', cap', rfl⟩ := ownsRow_succ hown'; obtain ⟨hv1, hv2, hr2, hk2, hb2⟩ := hv.appended (by decide) hrow hB.size (Nat.le_refl _) hown' hgrow; have hc1 := hv1.cell; have hf1 := hv1.frozen)
    exact ⟨hk2.from _, ⟨hk2.size, fun k o h hw => hk2.same k o h (Obj.not_cells_of_walk hw)⟩, ⟨_, hv2, by simpa [List.flatMap_append, cP, cT] using hr2⟩, hB.trans hb2⟩
  case done =>
    rintro D ys W hD hS ⟨⟨v, hv, hrow, -⟩, hB⟩ hK
    have hc := hv.cell
    gi_wp2
    refine ⟨by simp, .inl ⟨_, _, rfl, run_takeDeferred hK, ?_⟩⟩
    exact ⟨_, results_tmp rfl _ _ _, v, ys, rfl, hS, ownsRow_putObj hrow _ hK rfl, hB.trans (belowK_b (w := w) (Nat.le_refl _) W D _ _ (by simp at hD; omega) hK rfl rfl)⟩
  case stop =>
    rintro D c pre W _ _ h _
    exact h.elim
set_option maxHeartbeats 1000000 in
theorem collect_in (F : Fence) (n : Nat) (h43 : F.fn 43) (h54 : F.fn 54) (h45 : F.fn 45) (hro : F.round = none) (hn : 4 ≤ n) (Bm b : Nat) (L : List (Pr × Value)) (w : World) (hB : Bm < w.heap.size) (hc : w.cell? ⟨Bm, 0, none⟩ = some (.map (some b))) (hE : Ents encP w b L) (hL : L.length ≤ 1000000000) :
    CallsIn F n Try.prog 43 #[.func (.func 45) #[] #[.pointer (some ⟨Bm, 0, none⟩)]] w fun e W' => ∃ (v : Value) (ys : List Pr), e = .returned v ∧ (ys.Nodup ∧ ∀ p, p ∈ ys ↔ p ∈ L.map Prod.fst) ∧ W'.ownsRow w.heap.size 48 8 v ys.length (ys.flatMap cP) ∧ Below w.heap.size w W' := by
  have h1 : 1 ≤ n := by omega
  refine callsIn_of_wp Try.func43 rfl h43 ?_ hro
  simp only [Try.ntmps43, List.size_toArray, List.length_cons, List.length_nil, Nat.reduceAdd, Nat.reduceSub, Array.replicate_succ, Array.replicate_zero, List.push_toArray, List.append_toArray, List.nil_append, List.cons_append]
  gi_wp2_with (gi_at_call 54; refine (appendSeq_in F (n - 1) h54 h45 hro (by omega) Bm b L _ hB hc hE hL).mono ?_; rintro e w' ⟨v, ys, rfl, hS, hrow, hb⟩)
  go_ret
  exact ⟨v, ys, rfl, hS, hrow, hb⟩
theorem collect_calls (Bm b : Nat) (L : List (Pr × Value)) (w : World) (hB : Bm < w.heap.size) (hc : w.cell? ⟨Bm, 0, none⟩ = some (.map (some b))) (hE : Ents encP w b L) (hL : L.length ≤ 1000000000) :
    Calls Try.prog 43 #[.func (.func 45) #[] #[.pointer (some ⟨Bm, 0, none⟩)]] w fun e W' => ∃ (v : Value) (ys : List Pr), e = .returned v ∧ (ys.Nodup ∧ ∀ p, p ∈ ys ↔ p ∈ L.map Prod.fst) ∧ W'.ownsRow w.heap.size 48 8 v ys.length (ys.flatMap cP) ∧ Below w.heap.size w W' :=
  callsIn_wide.1 (collect_in Fence.wide 4 trivial trivial trivial rfl (Nat.le_refl _) Bm b L w hB hc hE hL)
end
end Go.Proofs.Ytaeiikielelicaa.Pt
