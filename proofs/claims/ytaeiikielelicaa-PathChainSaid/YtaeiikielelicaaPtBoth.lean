/- The maps of path: both. -/
import Derived.Test.YtaeiikielelicaaPtStep
import Derived.Shelf.SlMaps.Clone
set_option linter.unusedVariables false
set_option linter.unusedSimpArgs false
set_option linter.unusedSectionVars false
set_option linter.deprecated false
namespace Go.Proofs.Ytaeiikielelicaa.Pt
open Go.RowKit Go.Proofs Go.Am
open Pm
set_option maxRecDepth 1000000
set_option linter.unusedVariables false
set_option linter.unusedSimpArgs false
noncomputable section
section
variable (w : World) {ops : Array Oper} {rest : List Oper} {o : Oper} {a : Act} {Q : Exit → Act → World → Prop}
theorem wpl_nextP (hg : o.guard = none) (it : Operand) (hop : o.op = Op.next it false) (r b : Nat) (left : List (Pr × Value)) (hit : a.eval it = .pointer (some ⟨r, 0, none⟩)) (h : Iter encP w r b left)
    (hDone : left = [] → wpList Try.prog ops Q rest (a.put o.dst (.tuple #[.bool false])) w)
    (hMore : ∀ (x y : Tm) (v : Value), ((x, y), v) ∈ left → ∀ w', Iter encP w' r b (left.filter fun q => decide (q.1 ≠ (x, y))) → w.grownBy w' (some r) → w'.heap.size = w.heap.size →
      (Instr.entry (.pointer (some ⟨r, 0, none⟩))).run Try.prog w' = .ok (.tuple #[.agg #[.int .i64 x.kind, .string x.s, .string x.lang, .string x.ty, .int .i64 y.kind, .string y.s, .string y.lang, .string y.ty], v]) w' →
      wpList Try.prog ops Q rest (a.put o.dst (.tuple #[.bool true, .agg #[.int .i64 x.kind, .string x.s, .string x.lang, .string x.ty, .int .i64 y.kind, .string y.s, .string y.lang, .string y.ty], v])) w') :
    wpList Try.prog ops Q (o :: rest) a w :=
  wpl_next w hg it hop r b left hit h hDone fun p hp w' h1 h2 h3 h4 => hMore p.1.1 p.1.2 p.2 hp w' h1 h2 h3 h4
end
theorem grown_alloc {w wx : World} {b : Nat} (h : w.grownBy wx (some b)) (o : Obj) : w.grownBy (wx.alloc o) (some b) :=
  h.andThen ((World.grownBy_alloc wx o none).but (some b)) (fun j hj => .inr hj)
theorem mem_left_keys {left : List (Pr × Value)} {x p : Pr} : p ∈ (left.filter fun q => decide (q.1 ≠ x)).map Prod.fst ↔ p ∈ left.map Prod.fst ∧ p ≠ x := by
  simp only [List.mem_map, List.mem_filter, decide_eq_true_eq]
  constructor
  · rintro ⟨q, ⟨h1, h2⟩, rfl⟩; exact ⟨⟨q, h1, rfl⟩, h2⟩
  · rintro ⟨⟨q, h1, rfl⟩, h2⟩; exact ⟨q, ⟨h1, h2⟩, rfl⟩
set_option maxHeartbeats 2000000 in
theorem copy_calls (d s : Nat) (Sd Ss : Pr → Prop) (w : World) (hd : PSet w d Sd) (hs : PSet w s Ss) (hne : d ≠ s) :
    Calls Try.prog 58 #[.map (some d), .map (some s)] w fun e w' => e = .returned (.tuple #[]) ∧ PSet w' d (fun p => Sd p ∨ Ss p) ∧ PSet w' s Ss ∧ w.grownBy w' (some d) := by
  obtain ⟨ls, hls, hSs⟩ := hs
  have hslt := hls.lt
  have hdlt := hd.lt
  go_enter Try.func58, Try.ntmps58
  go_wp2_with (at_range; refine wpl_range _ rfl _ 62 3 rfl und62 s ls rfl hls ?_; intro w1 hi1 hg1 hs1)
  go_frame
  go_loopg [] (ls.length + 1) (fun gf wx => ∃ left, Iter encP wx w.heap.size s left ∧ PSet wx d (fun p => Sd p ∨ (Ss p ∧ p ∉ left.map Prod.fst)) ∧ w.grownBy wx (some d) ∧ (∀ p ∈ left.map Prod.fst, Ss p) ∧ left.length < gf ∧ w.heap.size < wx.heap.size)
  case atStart => exact ⟨ls, hi1, (hd.keep (hg1.block d hdlt (by simp))).iff (fun p => ⟨.inl, fun h => h.elim id (fun h => absurd ((hSs p).2 h.1) h.2)⟩), hg1.but _, fun p hp => (hSs p).1 hp, by omega, by omega⟩
  case round =>
    obtain ⟨left, hI, ⟨l, hl, hS⟩, hgr, hsub, hfu, hsz⟩ := hrel
    obtain ⟨g', rfl⟩ : ∃ g', gk = g' + 1 := ⟨gk - 1, by omega⟩
    have hdr : d ≠ w.heap.size := by omega
    have hsr : s ≠ w.heap.size := by omega
    go_wp2_with (first
      | (at_next; refine wpl_nextP _ rfl _ rfl w.heap.size s left rfl hI ?_ ?_; rotate_left; (intro x y v hx w2 hi2 hg2 hs2 hen2; have hl2 : ∀ o, Ents encP (w2.alloc o) d l := fun o => hl.keep ((Below.heap_alloc _ _ _ (by have := hl.lt; omega)).trans (hg2.block d hl.lt (fun e => hdr (Option.some.inj e))))); rotate_left; intro h0)
      | (refine wpl_update _ keyP rfl _ _ _ 62 3 rfl und62 d l rfl (hl2 _) (x, y) v rfl rfl ?_; intro w3 he3 hg3 hs3))
    · go_end0
      subst h0
      exact ⟨rfl, (show PSet _ d _ from ⟨l, hl, hS⟩).iff (fun p => or_congr Iff.rfl (by simp)), ⟨ls, hls.keep (hgr.block s hslt (fun e => hne (Option.some.inj e).symm)), hSs⟩, hgr⟩
    · go_roundg g'
      case measure => omega
      case rel =>
        have hlt2 := hI.lts
        have hxy : (x, y) ∈ left.map Prod.fst := List.mem_map_of_mem (f := Prod.fst) hx
        have hs3' := hg3.size
        rw [World.size_alloc] at hs3'
        have keep3 : ∀ i, i < wr.heap.size → i ≠ d → w3.heap[i]? = w2.heap[i]? := fun i hi hid =>
          (hg3.block i (by simp; omega) (fun e => hid (Option.some.inj e))).trans (Below.heap_alloc _ _ _ (by omega))
        refine ⟨_, hi2.keep (keep3 s hlt2.1 (fun e => hne e.symm)) (keep3 _ hlt2.2 (fun e => hdr e.symm)), (PSet.put (x, y) v he3 hS).iff (fun p => ?_), ?_, ?_, ?_, by omega⟩
        · rw [mem_left_keys]
          constructor
          · rintro (rfl | h | ⟨h, hn⟩)
            · exact .inr ⟨hsub _ hxy, fun h => h.2 rfl⟩
            · exact .inl h
            · exact .inr ⟨h, fun h' => hn h'.1⟩
          · rintro (h | ⟨h, hn⟩)
            · exact .inr (.inl h)
            · by_cases e : p = (x, y)
              · exact .inl e
              · exact .inr (.inr ⟨h, fun h' => hn ⟨h', e⟩⟩)
        · exact (grown_alloc (hgr.andThen hg2 (fun j hj => .inl (Nat.le_of_eq (Option.some.inj hj)))) _).andThen hg3 (fun j hj => .inr hj)
        · intro p hp
          rw [mem_left_keys] at hp
          exact hsub p hp.1
        · have := (List.length_filter_lt_length_iff_exists (p := fun q : Pr × Value => decide (q.1 ≠ (x, y))) (l := left)).2 ⟨((x, y), v), hx, by simp⟩
          omega
theorem clone_calls (b : Nat) (es : Array MapEntry) (clock : Nat) (w : World) (hb : w.heap[b]? = some (.map es clock)) :
    Calls Try.prog 57 #[.map (some b)] w fun e w' => e = .returned (.map (some w.heap.size)) ∧ w' = w.alloc (.map es clock) := by
  have hq := fun w => run_eql_map_nil_sl (P := Try.prog) w 62 _ _ (some b) und62
  go_enter Try.func57, Try.ntmps57
  go_wp2
  rw [run_callFunc_extern Try.func73 (by kernel_rfl) (by kernel_rfl) (by kernel_rfl) (e := Extern.MapsClone.clone) (by kernel_rfl), run_maps_clone_sl w 62 hb]
  simp only [Result.andThen]
  rw [Oper.upon_value]
  go_wp2
  rw [run_typeAssert_map_sl _ 62 20 _ _ _ und62]
  simp only [Result.andThen]
  rw [Oper.upon_value]
  go_wp2
  go_ret
  exact ⟨rfl, rfl⟩
theorem PSet.clone {w : World} {b : Nat} {S : Pr → Prop} (h : PSet w b S) : ∃ es clock, w.heap[b]? = some (.map es clock) ∧ PSet (w.alloc (.map es clock)) w.heap.size S := by
  obtain ⟨l, ⟨es, clock, hb, hf⟩, hS⟩ := h
  exact ⟨es, clock, hb, l, ⟨es, clock, heap_alloc_new w _, hf⟩, hS⟩
theorem PSet.alloc {w : World} {b : Nat} {S : Pr → Prop} (h : PSet w b S) (o : Obj) : PSet (w.alloc o) b S := h.keep (Below.heap_alloc _ _ _ h.lt)
theorem PSet.below {w w' : World} {b : Nat} {S : Pr → Prop} (h : PSet w b S) (hb : Below w.heap.size w w') : PSet w' b S := h.keep (hb.block b h.lt)
theorem both_calls (a b : Nat) (A B : Pr → Prop) (w : World) (ha : PSet w a A) (hb : PSet w b B) :
    Calls Try.prog 46 #[.map (some a), .map (some b)] w fun e w' => ∃ c, e = .returned (.map (some c)) ∧ w.heap.size ≤ c ∧ PSet w' c (fun p => A p ∨ B p) ∧ Below w.heap.size w w' := by
  obtain ⟨es, clock, hes, hA⟩ := ha.clone
  have hlt := hb.lt
  go_enter Try.func46, Try.ntmps46
  go_wp2_with (first
    | (go_at_call 57; refine (clone_calls a es clock w hes).mono ?_; rintro e w1 ⟨rfl, rfl⟩)
    | (go_at_call 58; refine (copy_calls w.heap.size b A B _ hA (hb.alloc _) (by omega)).mono ?_; rintro e w2 ⟨rfl, h1, h2, h3⟩))
  go_ret
  exact ⟨_, rfl, Nat.le_refl _, h1, below_grown ((Below.refl _ w).alloc (Nat.le_refl _) _) h3 (Nat.le_refl _) (Nat.le_refl _)⟩
end
end Go.Proofs.Ytaeiikielelicaa.Pt
