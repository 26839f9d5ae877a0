/- The maps of path: step, same, both, again, behind. -/
import Derived.Test.YtaeiikielelicaaPtPairs
set_option linter.unusedVariables false
set_option linter.unusedSimpArgs false
set_option linter.unusedSectionVars false
set_option linter.deprecated false
namespace Go.Proofs.Ytaeiikielelicaa.Pt
open Go.RowKit Go.Proofs Go.Am
open Pm
set_option maxRecDepth 1000000
set_option linter.unusedVariables false
set_option linter.unusedSimpArgs false
noncomputable section
/-- a triple. -/
abbrev T3 := Tm × Tm × Tm
def cTr (t : T3) : List Value := cT t.1 ++ (cT t.2.1 ++ cT t.2.2)
/-- a row of triples that may be read. -/
def GOk (w : World) (v : Value) (G : List T3) : Prop := (v = .slice none 0 0 ∧ G = []) ∨ ∃ g cap, v = .slice (some ⟨g, 0, none⟩) G.length cap ∧ g < w.heap.size ∧
  ∀ (j : Nat) t, G[j]? = some t → ∀ (i : Nat) u, (cTr t)[i]? = some u → w.cell? ⟨g, j * 12 + i, none⟩ = some u
theorem GOk.below {w w' : World} {v : Value} {G : List T3} (h : GOk w v G) (hb : Below w.heap.size w w') : GOk w' v G := by
  rcases h with h | ⟨g, cap, h1, h2, h3⟩
  · exact .inl h
  · exact .inr ⟨g, cap, h1, Nat.lt_of_lt_of_le h2 hb.size, fun j t hj i u hi => (hb.cell (p := ⟨g, j * 12 + i, none⟩) h2).trans (h3 j t hj i u hi)⟩
/-- block b is a set of pairs. -/
def PSet (w : World) (b : Nat) (S : Pr → Prop) : Prop := ∃ l, Ents encP w b l ∧ ∀ p, p ∈ l.map Prod.fst ↔ S p
theorem PSet.keep {w w' : World} {b : Nat} {S : Pr → Prop} (h : PSet w b S) (hb : w'.heap[b]? = w.heap[b]?) : PSet w' b S := by
  obtain ⟨l, h1, h2⟩ := h
  exact ⟨l, h1.keep hb, h2⟩
theorem PSet.lt {w : World} {b : Nat} {S : Pr → Prop} (h : PSet w b S) : b < w.heap.size := by
  obtain ⟨l, h1, _⟩ := h
  exact h1.lt
theorem mem_put {x p : Pr} {v : Value} {l : List (Pr × Value)} : p ∈ (put x v l).map Prod.fst ↔ p = x ∨ p ∈ l.map Prod.fst := by
  rw [put_keys]
  split
  · rename_i h
    exact ⟨.inr, fun e => e.elim (fun e => by rw [e]; exact h) id⟩
  · rw [List.mem_append, List.mem_singleton]
    exact Or.comm
/-- one step along a predicate. -/
def stepL (pt : Tm) (G : List T3) (p : Pr) : Prop := ∃ t ∈ G, t.2.1 = pt ∧ p = (t.1, t.2.2)
theorem stepL_snoc {pt : Tm} {L : List T3} {t : T3} {p : Pr} : stepL pt (L ++ [t]) p ↔ stepL pt L p ∨ (t.2.1 = pt ∧ p = (t.1, t.2.2)) := by
  unfold stepL
  constructor
  · rintro ⟨u, hu, h⟩
    rw [List.mem_append, List.mem_singleton] at hu
    rcases hu with hu | rfl
    · exact .inl ⟨u, hu, h⟩
    · exact .inr h
  · rintro (⟨u, hu, h⟩ | h)
    · exact ⟨u, List.mem_append_left _ hu, h⟩
    · exact ⟨t, by simp, h⟩
theorem und62 : Try.prog.underlying 62 = some (.map 48 3) := by kernel_rfl
theorem below_grown {B b : Nat} {w w1 w2 : World} (h : Below B w w1) (hg : w1.grownBy w2 (some b)) (hb : B ≤ b) (hB : B ≤ w.heap.size) : Below B w w2 :=
  ⟨hg.os.trans h.os, hg.tape.trans h.tape, hg.output.trans h.output, Nat.le_trans h.size hg.size, fun i hi => (hg.block i (by have := h.size; omega) (fun e => by cases e; omega)).trans (h.block i hi)⟩
theorem make62 (W : World) : (Instr.makeMap 62 none).run Try.prog W = .ok (.map (some W.heap.size)) (W.alloc (.map #[] 0)) := by kernel_rfl
theorem PSet.put {w' : World} {b : Nat} {l : List (Pr × Value)} {S : Pr → Prop} (x : Pr) (v : Value) (h : Ents encP w' b (put x v l)) (hS : ∀ p, p ∈ l.map Prod.fst ↔ S p) : PSet w' b (fun p => p = x ∨ S p) :=
  ⟨_, h, fun p => mem_put.trans (or_congr Iff.rfl (hS p))⟩
theorem PSet.iff {w : World} {b : Nat} {S S' : Pr → Prop} (h : PSet w b S) (e : ∀ p, S p ↔ S' p) : PSet w b S' := by
  obtain ⟨l, h1, h2⟩ := h
  exact ⟨l, h1, fun p => (h2 p).trans (e p)⟩
theorem row12 {w wr : World} {g : Nat} {G : List T3} (hg : g < w.heap.size) (hc : ∀ (j : Nat) t, G[j]? = some t → ∀ (i : Nat) u, (cTr t)[i]? = some u → w.cell? ⟨g, j * 12 + i, none⟩ = some u) (hb : Below w.heap.size w wr) {j : Nat} {t : T3} (hj : G[j]? = some t) :
    wr.cell? ⟨g, j * 12, none⟩ = some (.int .i64 t.1.kind) ∧ wr.cell? ⟨g, j * 12 + 1, none⟩ = some (.string t.1.s) ∧ wr.cell? ⟨g, j * 12 + 2, none⟩ = some (.string t.1.lang) ∧ wr.cell? ⟨g, j * 12 + 3, none⟩ = some (.string t.1.ty) ∧
    wr.cell? ⟨g, j * 12 + 4, none⟩ = some (.int .i64 t.2.1.kind) ∧ wr.cell? ⟨g, j * 12 + 5, none⟩ = some (.string t.2.1.s) ∧ wr.cell? ⟨g, j * 12 + 6, none⟩ = some (.string t.2.1.lang) ∧ wr.cell? ⟨g, j * 12 + 7, none⟩ = some (.string t.2.1.ty) ∧
    wr.cell? ⟨g, j * 12 + 8, none⟩ = some (.int .i64 t.2.2.kind) ∧ wr.cell? ⟨g, j * 12 + 9, none⟩ = some (.string t.2.2.s) ∧ wr.cell? ⟨g, j * 12 + 10, none⟩ = some (.string t.2.2.lang) ∧ wr.cell? ⟨g, j * 12 + 11, none⟩ = some (.string t.2.2.ty) := by
  have h : ∀ (i : Nat) u, (cTr t)[i]? = some u → wr.cell? ⟨g, j * 12 + i, none⟩ = some u := fun i u hi => (hb.cell (p := ⟨g, j * 12 + i, none⟩) hg).trans (hc j t hj i u hi)
  exact ⟨h 0 _ rfl, h 1 _ rfl, h 2 _ rfl, h 3 _ rfl, h 4 _ rfl, h 5 _ rfl, h 6 _ rfl, h 7 _ rfl, h 8 _ rfl, h 9 _ rfl, h 10 _ rfl, h 11 _ rfl⟩
set_option maxHeartbeats 2000000 in
theorem step_calls (v : Value) (G : List T3) (s : ByteArray) (w : World) (hG : GOk w v G) (hn : G.length ≤ 100000) :
    Calls Try.prog 47 #[v, .string s] w fun e w' => ∃ b, e = .returned (.map (some b)) ∧ w.heap.size ≤ b ∧ PSet w' b (stepL ⟨1, s, ⟨#[]⟩, ⟨#[]⟩⟩ G) ∧ Below w.heap.size w w' := by
  have hmk := make62
  have hE0 : PSet (w.alloc (.map #[] 0)) w.heap.size (stepL ⟨1, s, ⟨#[]⟩, ⟨#[]⟩⟩ (G.take 0)) := ⟨[], Ents.made encP w, fun p => by simp [stepL]⟩
  have hb0 : Below w.heap.size w (w.alloc (.map #[] 0)) := (Below.refl _ w).alloc (Nat.le_refl _) _
  rcases hG with ⟨rfl, rfl⟩ | ⟨g, cap, rfl, hg, hc⟩
  · go_enter Try.func47, Try.ntmps47
    go_wp2
    go_loopg [11] 1 (fun gf i wx => i = .int .i64 0 ∧ PSet wx w.heap.size (stepL ⟨1, s, ⟨#[]⟩, ⟨#[]⟩⟩ []) ∧ Below w.heap.size w wx ∧ 0 < gf)
    case atStart => exact ⟨rfl, hE0, hb0, by omega⟩
    case round =>
      obtain ⟨rfl, hE, hbw, hfu⟩ := hrel
      go_wp2
      go_ret
      exact ⟨_, rfl, Nat.le_refl _, hE, hbw⟩
  · go_enter Try.func47, Try.ntmps47
    go_wp2
    go_loopg [11] (G.length + 1) (fun gf i wx => ∃ j : Nat, i = .int .i64 (j : Int) ∧ j ≤ G.length ∧ PSet wx w.heap.size (stepL ⟨1, s, ⟨#[]⟩, ⟨#[]⟩⟩ (G.take j)) ∧ Below w.heap.size w wx ∧ G.length < gf + j)
    case atStart => exact ⟨0, rfl, by omega, hE0, hb0, by omega⟩
    case round =>
      obtain ⟨j, rfl, hj, hE, hbw, hfu⟩ := hrel
      clear hE0
      by_cases hlt : j < G.length
      · have hltI : (j : Int) < (G.length : Int) := by omega
        obtain ⟨g', rfl⟩ : ∃ g', gk = g' + 1 := ⟨gk - 1, by omega⟩
        obtain ⟨t, ht⟩ : ∃ t, G[j]? = some t := ⟨G[j], List.getElem?_eq_getElem hlt⟩
        obtain ⟨k0, k1, k2, k3, k4, k5, k6, k7, k8, k9, k10, k11⟩ := row12 hg hc hbw ht
        obtain ⟨l, hl, hS⟩ := hE
        have heq := fun W => eqT_runW t.2.1 ⟨1, s, ⟨#[]⟩, ⟨#[]⟩⟩ W
        have htk : G.take (j + 1) = G.take j ++ [t] := by rw [List.take_add_one, ht]; rfl
        have hE' : ∀ o, Ents encP (wr.alloc o) w.heap.size l := fun o => hl.keep (Below.heap_alloc _ _ _ hl.lt)
        clear hc ht
        by_cases hp : t.2.1 = ⟨1, s, ⟨#[]⟩, ⟨#[]⟩⟩
        · simp only [hp, decide_true] at heq
          go_wp2_with (first
            | (refine wpl_eql _ rfl _ _ 41 41 rfl _ _ rfl rfl (by kernel_rfl) true (heq _) ?_)
            | (refine wpl_update _ keyP rfl _ _ _ 62 3 rfl und62 w.heap.size l rfl (hE' _) (t.1, t.2.2) (.int .i64 1) rfl rfl ?_; intro w3 he3 hg3 hs3))
          go_roundg g'
          case measure => omega
          case rel => exact ⟨j + 1, congrArg (Value.int .i64) (by omega), by omega, (PSet.put (t.1, t.2.2) (.int .i64 1) he3 hS).iff (fun p => by rw [htk, stepL_snoc]; exact ⟨fun h => h.elim (fun e => .inr ⟨hp, e⟩) .inl, fun h => h.elim .inr (fun e => .inl e.2)⟩), below_grown (hbw.alloc hbw.size _) hg3 (Nat.le_refl _) (Nat.le_refl _), by omega⟩
        · simp only [hp, decide_false] at heq
          go_wp2_with (refine wpl_eql _ rfl _ _ 41 41 rfl _ _ rfl rfl (by kernel_rfl) false (heq _) ?_)
          go_roundg g'
          case measure => omega
          case rel => exact ⟨j + 1, congrArg (Value.int .i64) (by omega), by omega, ⟨l, hE' _, fun p => by rw [htk, stepL_snoc, hS]; exact ⟨.inl, fun h => h.elim id (fun e => absurd e.1 hp)⟩⟩, hbw.alloc hbw.size _, by omega⟩
      · have hltI : ¬ (j : Int) < (G.length : Int) := by omega
        go_wp2
        go_ret
        exact ⟨_, rfl, Nat.le_refl _, by rwa [List.take_of_length_le (by omega)] at hE, hbw⟩
/-- each and itself. -/
def sameL (G : List T3) (p : Pr) : Prop := p.1 = p.2 ∧ ∃ t ∈ G, p.1 = t.1 ∨ p.1 = t.2.2
theorem sameL_snoc {L : List T3} {t : T3} {p : Pr} : sameL (L ++ [t]) p ↔ sameL L p ∨ (p.1 = p.2 ∧ (p.1 = t.1 ∨ p.1 = t.2.2)) := by
  unfold sameL
  constructor
  · rintro ⟨h0, u, hu, h⟩
    rw [List.mem_append, List.mem_singleton] at hu
    rcases hu with hu | rfl
    · exact .inl ⟨h0, u, hu, h⟩
    · exact .inr ⟨h0, h⟩
  · rintro (⟨h0, u, hu, h⟩ | ⟨h0, h⟩)
    · exact ⟨h0, u, List.mem_append_left _ hu, h⟩
    · exact ⟨h0, t, by simp, h⟩
set_option maxHeartbeats 2000000 in
theorem same_calls (v : Value) (G : List T3) (w : World) (hG : GOk w v G) (hn : G.length ≤ 100000) :
    Calls Try.prog 60 #[v] w fun e w' => ∃ b, e = .returned (.map (some b)) ∧ w.heap.size ≤ b ∧ PSet w' b (sameL G) ∧ Below w.heap.size w w' := by
  have hmk := make62
  have hE0 : PSet (w.alloc (.map #[] 0)) w.heap.size (sameL (G.take 0)) := ⟨[], Ents.made encP w, fun p => by simp [sameL]⟩
  have hb0 : Below w.heap.size w (w.alloc (.map #[] 0)) := (Below.refl _ w).alloc (Nat.le_refl _) _
  rcases hG with ⟨rfl, rfl⟩ | ⟨g, cap, rfl, hg, hc⟩
  · go_enter Try.func60, Try.ntmps60
    go_wp2
    go_loopg [9] 1 (fun gf i wx => i = .int .i64 0 ∧ PSet wx w.heap.size (sameL []) ∧ Below w.heap.size w wx ∧ 0 < gf)
    case atStart => exact ⟨rfl, hE0, hb0, by omega⟩
    case round =>
      obtain ⟨rfl, hE, hbw, hfu⟩ := hrel
      go_wp2
      go_ret
      exact ⟨_, rfl, Nat.le_refl _, hE, hbw⟩
  · go_enter Try.func60, Try.ntmps60
    go_wp2
    go_loopg [9] (G.length + 1) (fun gf i wx => ∃ j : Nat, i = .int .i64 (j : Int) ∧ j ≤ G.length ∧ PSet wx w.heap.size (sameL (G.take j)) ∧ Below w.heap.size w wx ∧ G.length < gf + j)
    case atStart => exact ⟨0, rfl, by omega, hE0, hb0, by omega⟩
    case round =>
      obtain ⟨j, rfl, hj, hE, hbw, hfu⟩ := hrel
      clear hE0
      by_cases hlt : j < G.length
      · have hltI : (j : Int) < (G.length : Int) := by omega
        obtain ⟨g', rfl⟩ : ∃ g', gk = g' + 1 := ⟨gk - 1, by omega⟩
        obtain ⟨t, ht⟩ : ∃ t, G[j]? = some t := ⟨G[j], List.getElem?_eq_getElem hlt⟩
        obtain ⟨k0, k1, k2, k3, k4, k5, k6, k7, k8, k9, k10, k11⟩ := row12 hg hc hbw ht
        obtain ⟨l, hl, hS⟩ := hE
        have htk : G.take (j + 1) = G.take j ++ [t] := by rw [List.take_add_one, ht]; rfl
        obtain ⟨W, hW⟩ : ∃ W, (wr.alloc (.cells #[.int .i64 t.1.kind, .string t.1.s, .string t.1.lang, .string t.1.ty, .int .i64 t.2.1.kind, .string t.2.1.s, .string t.2.1.lang, .string t.2.1.ty, .int .i64 t.2.2.kind, .string t.2.2.s, .string t.2.2.lang, .string t.2.2.ty] 43)).drew = W := ⟨_, rfl⟩
        have hE' : Ents encP W w.heap.size l := by rw [← hW]; exact hl.keep (Below.heap_alloc _ _ _ hl.lt)
        have hbW : Below w.heap.size w W := by rw [← hW]; exact (hbw.alloc hbw.size _).trans ⟨rfl, rfl, rfl, Nat.le_refl _, fun _ _ => rfl⟩
        obtain ⟨W3, hr3, he3, hg3, hs3⟩ := update_run keyP und62 hE' (t.1, t.1) (.int .i64 1)
        obtain ⟨W4, hr4, he4, hg4, hs4⟩ := update_run keyP und62 he3 (t.2.2, t.2.2) (.int .i64 1)
        have hcell3 : ∀ (i : Nat), W3.cell? ⟨wr.heap.size, i, none⟩ = W.cell? ⟨wr.heap.size, i, none⟩ := fun i => by
          unfold World.cell?
          dsimp only
          rw [hg3.block wr.heap.size (by rw [← hW]; simp) (fun e => by have := hl.lt; have := Option.some.inj e; omega)]
        have m8 := hcell3 8
        have m9 := hcell3 9
        have m10 := hcell3 10
        have m11 := hcell3 11
        subst hW
        simp only [encP] at hr3 hr4
        simp at m8 m9 m10 m11
        clear hc ht hcell3
        go_wp2
        go_region
        all_goals go_wp2
        all_goals go_roundg g'
        case measure => omega
        case rel =>
          refine ⟨j + 1, congrArg (Value.int .i64) (by omega), by omega, (PSet.put (t.2.2, t.2.2) (.int .i64 1) he4 (fun p => mem_put.trans (or_congr Iff.rfl (hS p)))).iff (fun p => ?_), below_grown (below_grown hbW hg3 (Nat.le_refl _) (Nat.le_refl _)) hg4 (Nat.le_refl _) (Nat.le_refl _), by omega⟩
          rw [htk, sameL_snoc]
          constructor
          · rintro (rfl | rfl | h)
            · exact .inr ⟨rfl, .inr rfl⟩
            · exact .inr ⟨rfl, .inl rfl⟩
            · exact .inl h
          · rintro (h | ⟨h1, h2 | h2⟩)
            · exact .inr (.inr h)
            · exact .inr (.inl (Prod.ext h2 (h1.symm.trans h2)))
            · exact .inl (Prod.ext h2 (h1.symm.trans h2))
      · have hltI : ¬ (j : Int) < (G.length : Int) := by omega
        go_wp2
        go_ret
        exact ⟨_, rfl, Nat.le_refl _, by rwa [List.take_of_length_le (by omega)] at hE, hbw⟩
end
end Go.Proofs.Ytaeiikielelicaa.Pt
