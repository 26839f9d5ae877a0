/- The reference's Ends. -/
import Derived.Test.YtaeiikielelicaaPtRef2
set_option linter.unusedVariables false
set_option linter.unusedSimpArgs false
set_option linter.unusedSectionVars false
set_option linter.deprecated false
namespace Go.Proofs.Ytaeiikielelicaa.Pt
open Go.RowKit Go.Proofs Go.Am
open Pm
set_option maxRecDepth 1000000
set_option linter.unusedVariables false
set_option linter.unusedSimpArgs false
noncomputable section
/-- each predicate is an IRI and nothing else. -/
def Iris (G : List T3) : Prop := ∀ t ∈ G, t.2.1 = ⟨1, t.2.1.s, ⟨#[]⟩, ⟨#[]⟩⟩
/-- the ways within, in memory, and what the reference says of each. -/
def KidsOk (v : Value) (G : List T3) (w : World) (kids : List Wy) (ad : Option Addr) : Prop := ∀ (j : Nat) (k : Wy), kids[j]? = some k → ∃ (g : Nat) (o : Int) (s : ByteArray) (a : Option Addr) (n m : Nat), ad = some ⟨g, 0, none⟩ ∧
  ∀ W, Below w.heap.size w W → (W.cell? ⟨g, j * 3, none⟩ = some (.int .i64 o) ∧ W.cell? ⟨g, j * 3 + 1, none⟩ = some (.string s) ∧ W.cell? ⟨g, j * 3 + 2, none⟩ = some (.slice a n m)) ∧
    RefOk 15 #[v, .agg #[.int .i64 o, .string s, .slice a n m]] W.heap.size (rel G k) W
def EOk (v : Value) (G : List T3) (op : Int) (s : ByteArray) (kids : List Wy) (ad : Option Addr) (cap : Nat) (w : World) : Prop :=
  RefOk 15 #[v, .agg #[.int .i64 op, .string s, .slice ad kids.length cap]] w.heap.size (rel G (.mk op s kids)) w
/-- the way in its box. -/
structure BoxW (w W0 : World) (op : Int) (s : ByteArray) (ad : Option Addr) (n cap : Nat) : Prop where
  made : w.alloc (.cells #[.int .i64 op, .string s, .slice ad n cap] 28) = W0
  size : W0.heap.size = w.heap.size + 1
  low : Below w.heap.size w W0
  cells : ∀ W, Below (w.heap.size + 1) W0 W → W.cell? ⟨w.heap.size, 0, none⟩ = some (.int .i64 op) ∧ W.cell? ⟨w.heap.size, 1, none⟩ = some (.string s) ∧ W.cell? ⟨w.heap.size, 2, none⟩ = some (.slice ad n cap)
theorem boxW (w : World) (op : Int) (s : ByteArray) (ad : Option Addr) (n cap : Nat) : ∃ W0, BoxW w W0 op s ad n cap := by
  refine ⟨_, rfl, by simp, (Below.refl _ w).alloc (Nat.le_refl _) _, fun W hW => ?_⟩
  have hb := (hW.block w.heap.size (by omega)).trans (World.alloc_heap_new w (.cells #[.int .i64 op, .string s, .slice ad n cap] 28))
  simp [World.cell?, hb]
theorem BoxW.trans {w W0 W : World} {op : Int} {s : ByteArray} {ad : Option Addr} {n cap : Nat} (h : BoxW w W0 op s ad n cap) (hW : Below (w.heap.size + 1) W0 W) : Below w.heap.size w W := h.low.trans (hW.mono (Nat.le_succ _))
theorem list_ne {a b : ByteArray} (h : ¬ a = b) : (a.toList == b.toList) = false := beq_eq_false_iff_ne.2 (fun e => h (list_bytes e))
set_option maxHeartbeats 2000000 in
theorem er_iri (v : Value) (G : List T3) (s : ByteArray) (kids : List Wy) (ad : Option Addr) (cap : Nat) (w : World) (hG : GOk w v G) (hn : G.length ≤ 500) (hI : Iris G) : EOk v G 1 s kids ad cap w := by
  unfold EOk RefOk
  rw [rel_eq]
  have hrelS : ∀ p, relOf G 1 s (kids.map (rel G)) p ↔ stepL ⟨1, s, ⟨#[]⟩, ⟨#[]⟩⟩ G p := fun p => by simp [relOf]
  have hTl : (termsL G).length ≤ 1000 := by rw [termsL_len]; omega
  obtain ⟨adg, cg, rfl, -⟩ := gview hG
  obtain ⟨W0, hW0⟩ := boxW w 1 s ad kids.length cap
  have hmade := hW0.made
  have hsz0 := hW0.size
  obtain ⟨e0, e1, e2⟩ := hW0.cells W0 (Below.refl _ _)
  have hrow0 : RowP (w.heap.size + 1) W0 (.slice none 0 0) [] := ⟨rfl, .inl ⟨rfl, rfl⟩⟩
  go_enter Try.func15, Try.ntmps15
  go_wp2
  go_loopg [5, 6] (G.length + 1) (fun gf l i wx => ∃ (j : Nat) (lc : List Pr), i = .int .i64 (j : Int) ∧ j ≤ G.length ∧ RowP (w.heap.size + 1) wx l lc ∧ Sorted lc ∧ (∀ p, p ∈ lc ↔ stepL ⟨1, s, ⟨#[]⟩, ⟨#[]⟩⟩ (G.take j) p) ∧ Below (w.heap.size + 1) W0 wx ∧ G.length < gf + j)
  case atStart => exact ⟨0, [], rfl, by omega, hrow0, List.Pairwise.nil, fun p => by simp [stepL], Below.refl _ _, by omega⟩
  case round =>
    clear hrow0 hmade e0 e1 e2
    obtain ⟨j, lc, rfl, hj, hrow, hsc, hmem, hbw, hfu⟩ := hrel
    obtain ⟨e0, e1, e2⟩ := hW0.cells wr hbw
    by_cases hlt : j < G.length
    · have hltI : (j : Int) < (G.length : Int) := by omega
      obtain ⟨g', rfl⟩ : ∃ g', gk = g' + 1 := ⟨gk - 1, by omega⟩
      obtain ⟨t, ht⟩ : ∃ t, G[j]? = some t := ⟨G[j], List.getElem?_eq_getElem hlt⟩
      have htk : G.take (j + 1) = G.take j ++ [t] := by rw [List.take_add_one, ht]; rfl
      have htG := List.mem_of_getElem? ht
      have htI := hI t htG
      obtain ⟨gb, rfl, k0, k1, k2, k3, k4, k5, k6, k7, k8, k9, k10, k11⟩ := gview_at (hG.below (hW0.trans hbw)) ht
      have hcell : ∀ W, Below (w.heap.size + 1) W0 W → (W.cell? ⟨gb, j * 12, none⟩ = some (.int .i64 t.1.kind) ∧ W.cell? ⟨gb, j * 12 + 1, none⟩ = some (.string t.1.s) ∧ W.cell? ⟨gb, j * 12 + 2, none⟩ = some (.string t.1.lang) ∧ W.cell? ⟨gb, j * 12 + 3, none⟩ = some (.string t.1.ty) ∧ W.cell? ⟨gb, j * 12 + 8, none⟩ = some (.int .i64 t.2.2.kind) ∧ W.cell? ⟨gb, j * 12 + 9, none⟩ = some (.string t.2.2.s) ∧ W.cell? ⟨gb, j * 12 + 10, none⟩ = some (.string t.2.2.lang) ∧ W.cell? ⟨gb, j * 12 + 11, none⟩ = some (.string t.2.2.ty)) := fun W hW => by
        obtain ⟨_, e, a0, a1, a2, a3, a4, a5, a6, a7, a8, a9, a10, a11⟩ := gview_at (hG.below (hW0.trans hW)) ht
        cases e
        exact ⟨a0, a1, a2, a3, a8, a9, a10, a11⟩
      clear ht
      by_cases hs : t.2.1.s = s
      · have heq : (t.2.1.s.toList == s.toList) = true := by rw [hs]; simp
        have hTc : In2 (termsL G) lc := fun p hp => inT_step G _ p (by obtain ⟨u, hu, h⟩ := (hmem p).1 hp; exact ⟨u, List.mem_of_mem_take hu, h⟩)
        have hwb : ∀ n, Below (w.heap.size + 1) W0 (wr.drewN n).drew := fun n => ⟨hbw.os, hbw.tape, hbw.output, hbw.size, hbw.block⟩
        have hput := fun n => put_calls (w := (wr.drewN n).drew) (show RowP (w.heap.size + 1) (wr.drewN n).drew u5 lc from hrow) (by rw [← hsz0]; exact hbw.size) hsc (by have := in2_len hTc hsc hTl; omega) t.1 t.2.2
        unfold PutOk at hput
        have hgo : ∀ n w1, (wr.drewN n).drew.grownBy w1 u5.ownBlock → Below (w.heap.size + 1) W0 w1 := fun n w1 hg => below_own (hwb n) (by omega) (show RowP (w.heap.size + 1) (wr.drewN n).drew u5 lc from hrow) hg
        have hS0 := fun n => hcell _ (hwb n)
        clear htI
        go_wp2
        go_quiet (fail)
        clear k0 k1 k2 k3 k4 k5 k6 k7 k8 k9 k10 k11
        go_wp2
        go_region_held3 (fun W => W.cell? ⟨gb, j * 12, none⟩ = some (.int .i64 t.1.kind) ∧ W.cell? ⟨gb, j * 12 + 1, none⟩ = some (.string t.1.s) ∧ W.cell? ⟨gb, j * 12 + 2, none⟩ = some (.string t.1.lang) ∧ W.cell? ⟨gb, j * 12 + 3, none⟩ = some (.string t.1.ty) ∧ W.cell? ⟨gb, j * 12 + 8, none⟩ = some (.int .i64 t.2.2.kind) ∧ W.cell? ⟨gb, j * 12 + 9, none⟩ = some (.string t.2.2.s) ∧ W.cell? ⟨gb, j * 12 + 10, none⟩ = some (.string t.2.2.lang) ∧ W.cell? ⟨gb, j * 12 + 11, none⟩ = some (.string t.2.2.ty)) (first | exact hS0 _ | exact hS1)
          (first
          | (go_at_call 32; refine (hput _).mono ?_; rintro e w1 ⟨v1, l1, rfl, h1, h2, h3, h4⟩; have hb1 := hgo _ w1 h4; have hS1 := hcell w1 hb1))
        all_goals
          clear hcell hS0 hS1 hgo
          go_wp2
          go_roundg g'
          case measure => omega
          case rel =>
            refine ⟨j + 1, l1, congrArg (Value.int .i64) (by omega), by omega, h3, h1, fun p => ?_, hb1, by omega⟩
            rw [h2, hmem, htk, stepL_snoc]
            have hpt : t.2.1 = ⟨1, s, ⟨#[]⟩, ⟨#[]⟩⟩ := by rw [← hs]; exact hI t htG
            exact ⟨fun h => h.elim (fun e => .inr ⟨hpt, e⟩) .inl, fun h => h.elim .inr (fun e => .inl e.2)⟩
      · have heq : (t.2.1.s.toList == s.toList) = false := list_ne hs
        clear htI
        go_wp2
        go_quiet (fail)
        clear k0 k1 k2 k3 k4 k5 k6 k7 k8 k9 k10 k11
        go_wp2
        go_roundg g'
        case measure => omega
        case rel =>
          refine ⟨j + 1, lc, congrArg (Value.int .i64) (by omega), by omega, hrow, hsc, fun p => ?_, ⟨hbw.os, hbw.tape, hbw.output, hbw.size, hbw.block⟩, by omega⟩
          rw [hmem, htk, stepL_snoc]
          exact ⟨.inl, fun h => h.elim id (fun e => absurd (by rw [e.1]) hs)⟩
    · have hltI : ¬ (j : Int) < (G.length : Int) := by omega
      go_wp2
      go_ret
      exact RefPost.mk lc hsc (fun p => by rw [hmem, hrelS, List.take_of_length_le (by omega)]) (hrow.low (Nat.le_succ _)) (hW0.trans hbw)
end
end Go.Proofs.Ytaeiikielelicaa.Pt
