/- walks: can one walk from a term to another one? -/
import Derived.Test.YtaeiikielelicaaPtWalksP
import Derived.Test.YtaeiikielelicaaPtBeh2
import Derived.Test.YtaeiikielelicaaPtCollect
import Derived.Test.YtaeiikielelicaaPtRef2
import Derived.Deep.RegionHeld3
set_option linter.unusedVariables false
set_option linter.unusedSimpArgs false
set_option linter.unusedSectionVars false
set_option linter.deprecated false
namespace Go.Proofs.Ytaeiikielelicaa.Pt
open Go.RowKit Go.Proofs Go.Am
open Pm
set_option maxRecDepth 1000000
set_option linter.unusedVariables false
set_option linter.unusedSimpArgs false
noncomputable section
theorem cell_newW {w : World} {N : Nat} (h : w.heap.size = N) (l : List Value) (t : TypeId) : ∀ (j : Nat) u, l[j]? = some u → (w.alloc (.cells ⟨l⟩ t)).cell? ((⟨N, 0, none⟩ : Addr).add j) = some u := by
  subst h; exact cell_new w l t
theorem addr_addW (blk off i : Nat) : Addr.add ⟨blk, off, none⟩ i = ⟨blk, off + i, none⟩ := by
  unfold Addr.add
  split <;> simp_all
def bArr (l : List Bool) : Array Value := (l.map Value.bool).toArray
theorem info4 : (Try.prog.info? 4).map (fun i => (i.zero, i.size, i.bytes)) = some (some (.bool false), 1, 1) := by kernel_rfl
theorem und72 : Try.prog.underlying 72 = some (.slice 4) := by kernel_rfl
theorem made_false (n : Nat) : madeCells (Value.bool false).cells (n * 1) = bArr (List.replicate n false) := by
  have hz : (Value.bool false).cells = #[Value.bool false] := rfl
  unfold madeCells bArr
  rw [hz, Nat.mul_one]
  apply Array.ext
  · simp
  · intro i h1 h2
    simp [Nat.mod_one]
theorem make72 (n : Nat) (hn : n ≤ 500) (W : World) : (Instr.makeSlice 72 (.int .i64 (n : Int)) (.int .i64 (n : Int))).run Try.prog W = .ok (.slice (some ⟨W.heap.size, 0, none⟩) n n) (W.alloc (.cells (bArr (List.replicate n false)) 4)) := by
  have hi := info4
  cases hq : Try.prog.info? 4 with
  | none => simp [hq] at hi
  | some i =>
    rw [hq] at hi
    simp only [Option.map_some, Option.some.injEq, Prod.mk.injEq] at hi
    obtain ⟨h1, h2, h3⟩ := hi
    have := run_make (P := Try.prog) W 72 4 i (.bool false) und72 hq h1 .i64 .i64 n n (by omega) (Int.le_refl _) (by rw [h3]; omega) (by omega)
    rw [this, h2, Int.toNat_natCast, made_false]
/-- memory between two rounds. -/
structure Wk (w W1 : World) (W : World) (atv : Value) (Q : List Tm) (sn : List Bool) : Prop where
  low : Below (w.heap.size + 2) W1 W
  row : W.ownsRow (w.heap.size + 2) 41 4 atv Q.length (cTs Q)
  seen : W.heap[w.heap.size + 3]? = some (.cells (bArr sn) 4 (0, 0))
  apart : atv.ownBlock ≠ some (w.heap.size + 3)
  size : w.heap.size + 4 ≤ W.heap.size
theorem Wk.drewN {w W1 W : World} {atv : Value} {Q : List Tm} {sn : List Bool} (h : Wk w W1 W atv Q sn) (n : Nat) : Wk w W1 (W.drewN n) atv Q sn :=
  ⟨⟨h.low.os, h.low.tape, h.low.output, h.low.size, h.low.block⟩, h.row, h.seen, h.apart, h.size⟩
theorem Wk.set {w W1 W : World} {atv : Value} {Q : List Tm} {sn : List Bool} (h : Wk w W1 W atv Q sn) (k : Nat) : Wk w W1 (W.setCell ⟨w.heap.size + 3, k, none⟩ (.bool true)) atv Q (sn.set k true) := by
  refine ⟨h.low.setCell (by show w.heap.size + 2 ≤ w.heap.size + 3; omega) _, own_keep h.row fun b hb => Below.heap_setCell _ _ _ b (fun e => h.apart (by rw [hb]; exact congrArg some e)), ?_, h.apart, by simpa [World.setCell] using h.size⟩
  obtain ⟨hlt, hk⟩ := Array.getElem?_eq_some_iff.1 h.seen
  show (W.heap.modify (w.heap.size + 3) _)[w.heap.size + 3]? = _
  rw [Array.getElem?_eq_getElem (by rw [Array.size_modify]; exact hlt), Array.getElem_modify_self, hk]
  simp [bArr, List.map_set]
theorem Wk.grow {w W1 W W3 : World} {atv v' : Value} {Q : List Tm} {sn : List Bool} {o : Obj} {t : Tm} (h : Wk w W1 W atv Q sn) (hown : W3.ownsRow (w.heap.size + 2) 41 4 v' (Q.length + 1) (cTs Q ++ cT t)) (hg : (W.alloc o).grownBy W3 atv.ownBlock) (hat : v'.ownBlock = atv.ownBlock ∨ v'.ownBlock = some (W.alloc o).heap.size) : Wk w W1 W3 v' (Q ++ [t]) sn := by
  have hs := h.size
  have hsz := hg.size
  rw [World.size_alloc] at hsz
  refine ⟨(h.low.alloc (by omega) o).grown hg (by simp; omega) (fun k e => (own_cellsB h.row e).1), ?_, ?_, ?_, by omega⟩
  · rw [List.length_append, cTs_snoc]; exact hown
  · exact (hg.block (w.heap.size + 3) (by simp; omega) (fun e => h.apart e.symm)).trans ((Below.heap_alloc _ _ _ (by omega)).trans h.seen)
  · rcases hat with e | e
    · rw [e]; exact h.apart
    · rw [e]; intro e2; have := Option.some.inj e2; simp at this; omega
/-- the row of terms, read. -/
theorem Wk.at {w w1 W : World} {ad : Option Addr} {n c : Nat} {Q : List Tm} {sn : List Bool} (h : Wk w w1 W (.slice ad n c) Q sn) {i : Nat} {x : Tm} (hx : Q[i]? = some x) : ∃ g, ad = some ⟨g, 0, none⟩ ∧ n = Q.length ∧ W.cell? ⟨g, i * 4, none⟩ = some (.int .i64 x.kind) ∧ W.cell? ⟨g, i * 4 + 1, none⟩ = some (.string x.s) ∧ W.cell? ⟨g, i * 4 + 2, none⟩ = some (.string x.lang) ∧ W.cell? ⟨g, i * 4 + 3, none⟩ = some (.string x.ty) := by
  have hi := (List.getElem?_eq_some_iff.1 hx).1
  rcases h.row.2 with ⟨_, h0⟩ | ⟨g, cap, cur, hv, hg, hgg, rest⟩
  · omega
  · cases hv
    have hc := fun j u hj => h.row.cells (g := g) rfl j u hj
    refine ⟨g, rfl, rfl, ?_, ?_, ?_, ?_⟩
    · have := hc (i * 4 + 0) (.int .i64 x.kind) ((cTs_at hx 0 (by omega)).trans rfl); rwa [addr_addW, Nat.zero_add, Nat.add_zero] at this
    · have := hc (i * 4 + 1) (.string x.s) ((cTs_at hx 1 (by omega)).trans rfl); rwa [addr_addW, Nat.zero_add] at this
    · have := hc (i * 4 + 2) (.string x.lang) ((cTs_at hx 2 (by omega)).trans rfl); rwa [addr_addW, Nat.zero_add] at this
    · have := hc (i * 4 + 3) (.string x.ty) ((cTs_at hx 3 (by omega)).trans rfl); rwa [addr_addW, Nat.zero_add] at this
theorem Wk.view {w w1 W : World} {v : Value} {Q : List Tm} {sn : List Bool} (h : Wk w w1 W v Q sn) (hq : 0 < Q.length) : ∃ ad c, v = .slice ad Q.length c := by
  rcases h.row.2 with ⟨_, h0⟩ | ⟨g, cap, cur, hv, _⟩
  · omega
  · exact ⟨_, _, hv⟩
theorem Wk.sees {w w1 W : World} {v : Value} {Q : List Tm} {sn : List Bool} (h : Wk w w1 W v Q sn) {k : Nat} {b : Bool} (hk : sn[k]? = some b) : W.cell? ⟨w.heap.size + 3, k, none⟩ = some (.bool b) ∧ W.frozen? ⟨w.heap.size + 3, k, none⟩ = false := by
  have hs := h.seen
  have : (bArr sn)[k]? = some (.bool b) := by simp [bArr, hk]
  simp [World.cell?, World.frozen?, hs, this]
theorem neqB_of {a b : ByteArray} (h : ¬ a = b) : (a.toList == b.toList) = false := beq_eq_false_iff_ne.2 (fun e => h (list_bytes e))
theorem oneT (t : Tm) : ∀ u ∈ cT t, u.oneCell' = true := by
  intro u hu
  simp only [cT, List.mem_cons, List.not_mem_nil, or_false] at hu
  rcases hu with rfl | rfl | rfl | rfl <;> rfl
def WalkPost (G : List T3) (p : ByteArray) (a b : Tm) (w : World) (e : Ending) (w' : World) : Prop := ∃ r, e = .returned (.bool r) ∧ (r = true ↔ Plus (stepS G p) a b) ∧ Below w.heap.size w w'
theorem WalkPost.yes {G : List T3} {p : ByteArray} {a b : Tm} {w w' : World} (h : Plus (stepS G p) a b) (hb : Below w.heap.size w w') : WalkPost G p a b w (.returned (.bool true)) w' := ⟨true, rfl, Iff.intro (fun _ => h) (fun _ => rfl), hb⟩
theorem WalkPost.no {G : List T3} {p : ByteArray} {a b : Tm} {w w' : World} (h : ¬ Plus (stepS G p) a b) (hb : Below w.heap.size w w') : WalkPost G p a b w (.returned (.bool false)) w' := ⟨false, rfl, Iff.intro (fun e => Bool.noConfusion e) (fun h2 => absurd h2 h), hb⟩
set_option maxHeartbeats 8000000 in
theorem walks_calls (v : Value) (G : List T3) (p : ByteArray) (a b : Tm) (w : World) (hG : GOk w v G) (hn : G.length ≤ 500) :
    Calls Try.prog 20 #[v, .string p, encT a, encT b] w (WalkPost G p a b w) := by
  obtain ⟨ad, cap, rfl, -⟩ := gview hG
  have hmk := fun W => make72 G.length hn W
  obtain ⟨i0, hi, hz0, hz1, hz2⟩ := info_parts (show (Try.prog.info? 41).map (fun i => (i.zero, i.size, i.bytes)) = some (some (.agg #[.int .i64 0, .string ⟨#[]⟩, .string ⟨#[]⟩, .string ⟨#[]⟩]), 4, 56) by kernel_rfl)
  obtain ⟨W1, hW1⟩ : ∃ W1, (w.alloc (.cells #[.int .i64 a.kind, .string a.s, .string a.lang, .string a.ty] 41)).alloc (.cells #[.int .i64 b.kind, .string b.s, .string b.lang, .string b.ty] 41) = W1 := ⟨_, rfl⟩
  have hs1 : W1.heap.size = w.heap.size + 2 := by rw [← hW1]; simp
  have hb1 : Below w.heap.size w W1 := by rw [← hW1]; exact ((Below.refl _ w).alloc (Nat.le_refl _) _).alloc (by simp) _
  have y0 : W1.heap[w.heap.size + 1]? = some (.cells #[.int .i64 b.kind, .string b.s, .string b.lang, .string b.ty] 41 (0, 0)) := by
    rw [← hW1]
    have := World.alloc_heap_new (w.alloc (.cells #[.int .i64 a.kind, .string a.s, .string a.lang, .string a.ty] 41)) (.cells #[.int .i64 b.kind, .string b.s, .string b.lang, .string b.ty] 41)
    rwa [World.size_alloc] at this
  have hbox : ∀ W, Below (w.heap.size + 2) W1 W → (W.cell? ⟨w.heap.size + 1, 0, none⟩ = some (.int .i64 b.kind) ∧ W.cell? ⟨w.heap.size + 1, 1, none⟩ = some (.string b.s) ∧ W.cell? ⟨w.heap.size + 1, 2, none⟩ = some (.string b.lang) ∧ W.cell? ⟨w.heap.size + 1, 3, none⟩ = some (.string b.ty)) := fun W hW => by
    have := (hW.block (w.heap.size + 1) (by omega)).trans y0
    simp [World.cell?, this]
  obtain ⟨W3, hW3⟩ : ∃ W3, (W1.alloc (.cells #[.int .i64 a.kind, .string a.s, .string a.lang, .string a.ty] 41)).alloc (.cells (bArr (List.replicate G.length false)) 4) = W3 := ⟨_, rfl⟩
  have hk0 : Wk w W1 W3 (.slice (some ⟨w.heap.size + 2, 0, none⟩) 1 1) [a] (List.replicate G.length false) := by
    have h2 : W3.heap[w.heap.size + 2]? = some (.cells #[.int .i64 a.kind, .string a.s, .string a.lang, .string a.ty] 41 (0, 0)) := by
      rw [← hW3, ← hs1]
      exact (Below.heap_alloc _ _ _ (by simp)).trans (World.alloc_heap_new W1 _)
    refine ⟨?_, ⟨rfl, .inr ⟨w.heap.size + 2, 1, _, rfl, Nat.le_refl _, h2, Nat.le_refl _, by unfold maxLen; omega, rfl, rfl⟩⟩, ?_, ?_, ?_⟩
    · rw [← hW3]; exact ((Below.refl _ W1).alloc (by omega) _).alloc (by simp; omega) _
    · rw [← hW3]
      have := World.alloc_heap_new (W1.alloc (.cells #[.int .i64 a.kind, .string a.s, .string a.lang, .string a.ty] 41)) (.cells (bArr (List.replicate G.length false)) 4)
      rwa [World.size_alloc, hs1] at this
    · intro e
      have : w.heap.size + 2 = w.heap.size + 3 := Option.some.inj e
      omega
    · rw [← hW3]; simp; omega
  have hB0 := Bfs.start G p a b
  have hlow : ∀ W, Below (w.heap.size + 2) W1 W → Below w.heap.size w W := fun W h => hb1.trans (h.mono (by omega))
  dsimp only [encT]
  have a0 : W1.heap[w.heap.size]? = some (.cells #[.int .i64 a.kind, .string a.s, .string a.lang, .string a.ty] 41 (0, 0)) := by
    rw [← hW1]; exact (Below.heap_alloc _ _ _ (by simp)).trans (World.alloc_heap_new w _)
  have ha0 : W1.cell? ⟨w.heap.size, 0, none⟩ = some (.int .i64 a.kind) ∧ W1.cell? ⟨w.heap.size, 1, none⟩ = some (.string a.s) ∧ W1.cell? ⟨w.heap.size, 2, none⟩ = some (.string a.lang) ∧ W1.cell? ⟨w.heap.size, 3, none⟩ = some (.string a.ty) := by simp [World.cell?, a0]
  clear a0 y0
  go_enter Try.func20, Try.ntmps20
  go_wp2
  clear hmk hW3 ha0 hW1
  go_loopg [9, 11] (G.length + 2) (fun gf l i wx => ∃ (j : Nat) (Q : List Tm) (sn : List Bool), i = .int .i64 (j : Int) ∧ j ≤ Q.length ∧ Wk w W1 wx l Q sn ∧ Bfs G p a b Q sn j 0 ∧ G.length + 1 < gf + j)
  case atStart => exact ⟨0, [a], _, rfl, by omega, hk0, hB0, by omega⟩
  case round =>
    clear hk0 hB0
    obtain ⟨i, Q, sn, rfl, hiQ, hk, hB, hfu⟩ := hrel
    have hQ0 : 0 < Q.length := by have := (List.getElem?_eq_some_iff.1 hB.head).1; omega
    have hQn := hB.short
    obtain ⟨adq, cq, rfl⟩ := hk.view hQ0
    by_cases hlt : i < Q.length
    · have hltI : (i : Int) < (Q.length : Int) := by omega
      have hleI : (i : Int) ≤ (G.length : Int) := by omega
      obtain ⟨g', rfl⟩ : ∃ g', gk = g' + 1 := ⟨gk - 1, by omega⟩
      obtain ⟨x, hx⟩ : ∃ x, Q[i]? = some x := ⟨Q[i], List.getElem?_eq_getElem hlt⟩
      go_wp2
      go_loopg [9, 12] (G.length + 1) (fun gf l k wx => ∃ (j : Nat) (Q : List Tm) (sn : List Bool), k = .int .i64 (j : Int) ∧ j ≤ G.length ∧ Q[i]? = some x ∧ Wk w W1 wx l Q sn ∧ Bfs G p a b Q sn i j ∧ G.length < gf + j)
      case atStart => exact ⟨0, Q, sn, rfl, by omega, hx, hk, hB, by omega⟩
      case round =>
        clear hQ0 hQn hlt hltI hx hk hB hiQ
        obtain ⟨j, Q, sn, rfl, hj, hx, hk, hB, hfj⟩ := hrel
        have hlt : i < Q.length := (List.getElem?_eq_some_iff.1 hx).1
        have hltI : (i : Int) < (Q.length : Int) := by omega
        have hQ0 : 0 < Q.length := by omega
        have hQn := hB.short
        by_cases hltj : j < G.length
        · have hltJ : (j : Int) < (G.length : Int) := by omega
          obtain ⟨g3, rfl⟩ : ∃ g3, gk = g3 + 1 := ⟨gk - 1, by omega⟩
          obtain ⟨t, ht⟩ : ∃ t, G[j]? = some t := ⟨G[j], List.getElem?_eq_getElem hltj⟩
          obtain ⟨sb, hsb⟩ : ∃ sb, sn[j]? = some sb := ⟨sn[j]'(by rw [hB.len]; exact hltj), List.getElem?_eq_getElem (by rw [hB.len]; exact hltj)⟩
          obtain ⟨s0, s1⟩ := hk.sees hsb
          obtain ⟨adq, cq, rfl⟩ := hk.view hQ0
          obtain ⟨gq, rfl, -, q0, q1, q2, q3⟩ := hk.at hx
          obtain ⟨gg, rfl, k0, k1, k2, k3, k4, k5, k6, k7, k8, k9, k10, k11⟩ := gview_at (hG.below (hlow _ hk.low)) ht
          obtain ⟨z0, z1, z2, z3⟩ := hbox _ hk.low
          have hx' := hx
          have hsl : j < sn.length := by rw [hB.len]; exact hltj
          have hslI : (j : Int) < (sn.length : Int) := by omega
          have heq1 := fun W => eqT_runW t.1 x W
          have heq2 := fun W => eqT_runW t.2.2 b W
          dsimp only [encT] at heq1 heq2
          cases sb with
          | true =>
            have hB2 := hB.skip ht hx (.inl hsb)
            clear heq1 heq2 hsb hx ht hB
            go_wp2
            go_quiet (fail)
            go_wp2
            go_roundg g3
            case measure => omega
            case rel => exact ⟨j + 1, Q, sn, congrArg (Value.int .i64) (by omega), by omega, hx', hk.drewN _, hB2, by omega⟩
          | false =>
            by_cases hp : t.2.1.s = p
            · by_cases h1 : t.1 = x
              · have e1 := decide_eq_true h1
                simp only [e1] at heq1
                by_cases h2 : t.2.2 = b
                · have hpl := hB.found ht hx hp h1
                  rw [h2] at hpl
                  have e2 := decide_eq_true h2
                  simp only [e2] at heq2
                  have hbw := hlow _ hk.low
                  have hpB : (t.2.1.s.toList == p.toList) = true := by rw [hp]; exact beq_self_eq_true _
                  clear e1 e2 hsb hx ht hB h1 h2 hp
                  go_wp2
                  go_quiet (fail)
                  go_wp2
                  go_quiet (fail)
                  go_wp2
                  go_ret
                  exact WalkPost.yes hpl ⟨hbw.os, hbw.tape, hbw.output, hbw.size, hbw.block⟩
                · have hB2 := hB.put ht hx hsb hp h1 h2
                  have hx2 : (Q ++ [t.2.2])[i]? = some x := by rw [List.getElem?_append_left hlt]; exact hx
                  have e2 := decide_eq_false h2
                  simp only [e2] at heq2
                  have hpB : (t.2.1.s.toList == p.toList) = true := by rw [hp]; exact beq_self_eq_true _
                  clear e1 e2 hsb hx ht hB h1 h2 hp
                  go_wp2
                  go_quiet (fail)
                  go_wp2
                  go_quiet (fail)
                  have hown0 := fun n o => (World.ownsRow.alloc (w := (wr.drewN n).setCell ⟨w.heap.size + 2 + 1, j, none⟩ (.bool true)) ((hk.drewN n).set j).row) o
                  go_wp2_with (at_builtin; refine wpList_append_own_at _ rfl (.tmp 72) (.tmp 78) 71 rfl (w.heap.size + 2) 41 i0 _ 4 56 Try.underlying71 hi hz0 hz1 hz2 rfl (by decide) _ Q.length (cTs Q) rfl (by exact hown0 _ _) ⟨_, 0, none⟩ 1 1 (cT t.2.2) rfl rfl (by exact cell_newW (by simp [World.setCell]) _ _) (oneT _) (by unfold maxLen; omega) (by omega) (by have := hk.size; simp [World.setCell]; omega) ?_; intro v' w2 hown' hgrow hnil hat)
                  have hk2 := ((hk.drewN _).set j).grow hown' hgrow hat
                  go_roundg g3
                  case measure => omega
                  case rel => exact ⟨j + 1, Q ++ [t.2.2], sn.set j true, congrArg (Value.int .i64) (by omega), by omega, hx2, hk2, hB2, by omega⟩
              · have hB2 := hB.skip ht hx (.inr (.inr h1))
                have e1 := decide_eq_false h1
                simp only [e1] at heq1
                have hpB : (t.2.1.s.toList == p.toList) = true := by rw [hp]; exact beq_self_eq_true _
                clear e1 heq2 hsb hx ht hB h1 hp
                go_wp2
                go_quiet (fail)
                go_wp2
                go_roundg g3
                case measure => omega
                case rel => exact ⟨j + 1, Q, sn, congrArg (Value.int .i64) (by omega), by omega, hx', hk.drewN _, hB2, by omega⟩
            · have hB2 := hB.skip ht hx (.inr (.inl hp))
              have hpB := neqB_of hp
              have hpN : ¬ t.2.1.s.toList = p.toList := fun e => hp (list_bytes e)
              clear heq1 heq2 hsb hx ht hB hp
              go_wp2
              go_quiet (fail)
              go_wp2
              go_roundg g3
              case measure => omega
              case rel => exact ⟨j + 1, Q, sn, congrArg (Value.int .i64) (by omega), by omega, hx', hk.drewN _, hB2, by omega⟩
        · have hltJ : ¬ (j : Int) < (G.length : Int) := by omega
          have hB2 := hB.next (by omega)
          obtain ⟨adq, cq, rfl⟩ := hk.view hQ0
          go_wp2
          go_roundg g'
          case measure => omega
          case rel => exact ⟨i + 1, Q, sn, congrArg (Value.int .i64) (by omega), by omega, hk, hB2, by omega⟩
    · have hltI : ¬ (i : Int) < (Q.length : Int) := by omega
      have hno := hB.none (by omega)
      have hbw := hlow _ hk.low
      go_wp2
      go_ret
      exact WalkPost.no hno hbw
end
end Go.Proofs.Ytaeiikielelicaa.Pt
