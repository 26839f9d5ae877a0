/- Is a pair among others; of more triples a way leads at least as far; rows of numbers put together. -/
import Derived.Test.YtaeiikielelicaaPtKnown
import Derived.Laws.AppendOwnNone
set_option linter.unusedVariables false
set_option linter.unusedSimpArgs false
set_option linter.unusedSectionVars false
set_option linter.deprecated false
namespace Go.Proofs.Ytaeiikielelicaa.Pt
open Go.RowKit Go.Proofs Go.Am
open Pm
set_option maxRecDepth 1000000
set_option linter.unusedVariables false
set_option linter.unusedSimpArgs false
noncomputable section
theorem box4 {w : World} {g : Nat} {a b c d : Value} {t : TypeId} (h : w.heap[g]? = some (.cells #[a, b, c, d] t (0, 0))) : w.cell? ⟨g, 0, none⟩ = some a ∧ w.cell? ⟨g, 1, none⟩ = some b ∧ w.cell? ⟨g, 2, none⟩ = some c ∧ w.cell? ⟨g, 3, none⟩ = some d := by simp [World.cell?, h]
theorem mem_take_next {α : Type} {l : List α} {j : Nat} {q p : α} (h : l[j]? = some q) (hn : p ∉ l.take j) (hq : q ≠ p) : p ∉ l.take (j + 1) := by
  have htk : l.take (j + 1) = l.take j ++ [q] := by rw [List.take_add_one, h]; rfl
  rw [htk, List.mem_append, List.mem_singleton]
  exact fun h => h.elim hn (fun e => hq e.symm)
set_option maxHeartbeats 2000000 in
theorem has_calls (v : Value) (l : List Pr) (a b : Tm) (w : World) (h : RowP 0 w v l) (hl : l.length ≤ 1000000) : Calls Try.prog 21 #[v, encT a, encT b] w fun e w' => e = .returned (.bool (decide ((a, b) ∈ l))) ∧ Below w.heap.size w w' := by
  obtain ⟨ad, c, rfl, -⟩ := h.view
  obtain ⟨WB, hWB⟩ : ∃ WB, WB = (w.alloc (.cells #[.int .i64 a.kind, .string a.s, .string a.lang, .string a.ty] 41)).alloc (.cells #[.int .i64 b.kind, .string b.s, .string b.lang, .string b.ty] 41) := ⟨_, rfl⟩
  have hB : Below w.heap.size w WB := by rw [hWB]; exact ((Below.refl _ w).alloc (Nat.le_refl _) _).alloc (by simp) _
  have hsz : WB.heap.size = w.heap.size + 2 := by rw [hWB]; simp
  have hbox : ∀ W, Below WB.heap.size WB W → (W.cell? ⟨w.heap.size, 0, none⟩ = some (.int .i64 a.kind) ∧ W.cell? ⟨w.heap.size, 1, none⟩ = some (.string a.s) ∧ W.cell? ⟨w.heap.size, 2, none⟩ = some (.string a.lang) ∧ W.cell? ⟨w.heap.size, 3, none⟩ = some (.string a.ty)) ∧ (W.cell? ⟨w.heap.size + 1, 0, none⟩ = some (.int .i64 b.kind) ∧ W.cell? ⟨w.heap.size + 1, 1, none⟩ = some (.string b.s) ∧ W.cell? ⟨w.heap.size + 1, 2, none⟩ = some (.string b.lang) ∧ W.cell? ⟨w.heap.size + 1, 3, none⟩ = some (.string b.ty)) := fun W hW => by
    constructor
    · refine box4 (t := 41) ((hW.block w.heap.size (by omega)).trans ?_)
      rw [hWB]
      exact (Below.heap_alloc _ _ _ (by simp)).trans (World.alloc_heap_new w _)
    · refine box4 (t := 41) ((hW.block (w.heap.size + 1) (by omega)).trans ?_)
      rw [hWB]
      have := World.alloc_heap_new (w.alloc (.cells #[.int .i64 a.kind, .string a.s, .string a.lang, .string a.ty] 41)) (.cells #[.int .i64 b.kind, .string b.s, .string b.lang, .string b.ty] 41)
      rwa [World.size_alloc] at this
  dsimp only [encT]
  go_enter Try.func21, Try.ntmps21
  go_wp2
  rw [← hWB]
  clear hWB
  go_loopg [7] (l.length + 1) (fun gf i wx => ∃ (j : Nat), i = .int .i64 (j : Int) ∧ j ≤ l.length ∧ (a, b) ∉ l.take j ∧ Below WB.heap.size WB wx ∧ l.length < gf + j)
  case atStart => exact ⟨0, rfl, by omega, by simp, Below.refl _ _, by omega⟩
  case round =>
    obtain ⟨j, rfl, hj, hno, hbw, hfu⟩ := hrel
    have hbW := hB.trans (hbw.mono hB.size)
    by_cases hlt : j < l.length
    · have hltI : (j : Int) < (l.length : Int) := by omega
      obtain ⟨g', rfl⟩ : ∃ g', gk = g' + 1 := ⟨gk - 1, by omega⟩
      obtain ⟨⟨x, y⟩, hq⟩ : ∃ q, l[j]? = some q := ⟨l[j], List.getElem?_eq_getElem hlt⟩
      obtain ⟨ga, rfl, k0, k1, k2, k3, k4, k5, k6, k7⟩ := view_at (h.below hbW) hq
      obtain ⟨⟨x0, x1, x2, x3⟩, y0, y1, y2, y3⟩ := hbox _ hbw
      have heq1 := fun W => eqT_runW x a W
      have heq2 := fun W => eqT_runW y b W
      dsimp only [encT] at heq1 heq2
      have hm := List.mem_of_getElem? hq
      by_cases h1 : x = a
      · by_cases h2 : y = b
        · have hin : decide ((a, b) ∈ l) = true := by rw [← h1, ← h2]; exact decide_eq_true hm
          have e1 := decide_eq_true h1
          have e2 := decide_eq_true h2
          simp only [e1] at heq1
          simp only [e2] at heq2
          clear e1 e2 h1 h2 hm hq hno
          go_wp2
          go_quiet (fail)
          go_wp2
          go_ret
          exact ⟨congrArg (fun b => Ending.returned (Value.bool b)) hin.symm, hbW.os, hbW.tape, hbW.output, hbW.size, hbW.block⟩
        · have hno2 := mem_take_next hq hno (fun e => h2 (Prod.mk.inj e).2)
          have e1 := decide_eq_true h1
          have e2 := decide_eq_false h2
          simp only [e1] at heq1
          simp only [e2] at heq2
          clear e1 e2 h1 h2 hm hq hno
          go_wp2
          go_quiet (fail)
          go_wp2
          go_roundg g'
          case measure => omega
          case rel => exact ⟨j + 1, congrArg (Value.int .i64) (by omega), by omega, hno2, ⟨hbw.os, hbw.tape, hbw.output, hbw.size, hbw.block⟩, by omega⟩
      · have hno2 := mem_take_next hq hno (fun e => h1 (Prod.mk.inj e).1)
        have e1 := decide_eq_false h1
        simp only [e1] at heq1
        clear e1 h1 hm hq hno heq2
        go_wp2
        go_quiet (fail)
        go_wp2
        go_roundg g'
        case measure => omega
        case rel => exact ⟨j + 1, congrArg (Value.int .i64) (by omega), by omega, hno2, ⟨hbw.os, hbw.tape, hbw.output, hbw.size, hbw.block⟩, by omega⟩
    · have hltI : ¬ (j : Int) < (l.length : Int) := by omega
      have hout : decide ((a, b) ∈ l) = false := decide_eq_false (by rw [List.take_of_length_le (by omega)] at hno; exact hno)
      go_wp2
      go_ret
      exact ⟨rfl, hbW⟩
/-- of more, more. -/
theorem step_mono {G G' : List T3} (h : ∀ t ∈ G, t ∈ G') (pt : Tm) {p : Pr} : stepL pt G p → stepL pt G' p := fun ⟨t, ht, e⟩ => ⟨t, h t ht, e⟩
theorem same_mono {G G' : List T3} (h : ∀ t ∈ G, t ∈ G') {p : Pr} : sameL G p → sameL G' p := fun ⟨e, t, ht, h2⟩ => ⟨e, t, h t ht, h2⟩
theorem plus_mono {A B : Pr → Prop} (h : ∀ p, A p → B p) {x y : Tm} (hp : Plus A x y) : Plus B x y := by
  induction hp with
  | one h1 => exact .one (h _ h1)
  | more _ h2 ih => exact .more ih (h _ h2)
theorem alone_mono {G G' : List T3} (h : ∀ t ∈ G, t ∈ G') (op : Int) {A B : Pr → Prop} (hA : ∀ p, A p → B p) {p : Pr} (hp : aloneP op G A p) : aloneP op G' B p := by
  unfold aloneP at hp ⊢
  split at hp
  · rename_i e; rw [if_pos e]; exact hA _ hp
  · rename_i e; rw [if_neg e]
    split at hp
    · rename_i e; rw [if_pos e]; exact hp.imp (plus_mono hA) (same_mono h)
    · rename_i e; rw [if_neg e]
      split at hp
      · rename_i e; rw [if_pos e]; exact plus_mono hA hp
      · rename_i e; rw [if_neg e]
        split at hp
        · rename_i e; rw [if_pos e]; exact hp.imp (hA p) (same_mono h)
        · exact hp.elim
theorem fold_mono {α : Type} {f : (Pr → Prop) → (Pr → Prop) → Pr → Prop} (hf : ∀ A A' B B', (∀ p, A p → A' p) → (∀ p, B p → B' p) → ∀ p, f A B p → f A' B' p) (F F' : α → Pr → Prop) : ∀ (l : List α) (A A' : Pr → Prop), (∀ k ∈ l, ∀ p, F k p → F' k p) → (∀ p, A p → A' p) → ∀ p, (l.map F).foldl f A p → (l.map F').foldl f A' p
  | [], A, A', _, hA => hA
  | k :: l, A, A', hl, hA => fold_mono hf F F' l (f A (F k)) (f A' (F' k)) (fun k hk => hl k (by simp [hk])) (hf _ _ _ _ hA (hl k (by simp)))
theorem join_mono {α : Type} {f : (Pr → Prop) → (Pr → Prop) → Pr → Prop} (hf : ∀ A A' B B', (∀ p, A p → A' p) → (∀ p, B p → B' p) → ∀ p, f A B p → f A' B' p) (F F' : α → Pr → Prop) (l : List α) (hl : ∀ k ∈ l, ∀ p, F k p → F' k p) (p : Pr) (h : joinL f (l.map F) p) : joinL f (l.map F') p := by
  cases l with
  | nil => exact h
  | cons k l => exact fold_mono hf F F' l _ _ (fun k hk => hl k (by simp [hk])) (hl k (by simp)) p h
theorem rel_mono {G G' : List T3} (h : ∀ t ∈ G, t ∈ G') : ∀ (t : Wy) (p : Pr), rel G t p → rel G' t p
  | .mk op s kids, p, hp => by
    have ih : ∀ k ∈ kids, ∀ p, rel G k p → rel G' k p := fun k hk p hp => by
      have := List.sizeOf_lt_of_mem hk
      exact rel_mono h k p hp
    rw [rel_eq] at hp ⊢
    unfold relOf at hp ⊢
    split at hp
    · rename_i e; rw [if_pos e]; exact step_mono h _ hp
    · rename_i e; rw [if_neg e]
      split at hp
      · rename_i e; rw [if_pos e]; exact join_mono (fun A A' B B' hA hB p ⟨y, h1, h2⟩ => ⟨y, hA _ h1, hB _ h2⟩) (rel G) (rel G') kids ih p hp
      · rename_i e; rw [if_neg e]
        split at hp
        · rename_i e; rw [if_pos e]; exact join_mono (fun A A' B B' hA hB p h => h.imp (hA p) (hB p)) (rel G) (rel G') kids ih p hp
        · rename_i e; rw [if_neg e]
          match kids, ih, hp with
          | [], _, hp => exact hp
          | [k], ih, hp => exact alone_mono h op (ih k (by simp)) hp
          | _ :: _ :: _, _, hp => exact hp
/-- a row of numbers that is put behind another one. -/
def AppSrc (w : World) (v : Value) (ns : List Int) : Prop := (v = .slice none 0 0 ∧ ns = []) ∨ ∃ ad cap, v = .slice (some ad) ns.length cap ∧ ∀ j u, (ns.map (Value.int .i64))[j]? = some u → w.cell? (ad.add j) = some u
theorem ns_src {w : World} {v : Value} {ns : List Int} (h : NsOk w v ns) (hf : v = .slice none 0 0 ∨ ∃ ad len cap, v = .slice (some ad) len cap) : AppSrc w v ns := by
  obtain ⟨ad, cap, rfl, h⟩ := h
  rcases hf with hf | ⟨ad', len, cap', hf⟩
  · obtain ⟨-, e, -⟩ := Value.slice.inj hf
    exact .inl ⟨hf, List.eq_nil_of_length_eq_zero e⟩
  · obtain ⟨rfl, rfl, rfl⟩ := Value.slice.inj hf
    refine .inr ⟨ad', _, rfl, fun j u hj => ?_⟩
    rw [List.getElem?_map] at hj
    obtain ⟨a, ha, rfl⟩ := Option.map_eq_some_iff.1 hj
    obtain ⟨g, off, e, -, hc, -⟩ := h j a ha
    cases e
    rw [addr_addT]
    exact hc
theorem AppSrc.below {w w' : World} {v : Value} {ns : List Int} (h : AppSrc w v ns) (hn : NsOk w v ns) (hb : Below w.heap.size w w') : AppSrc w' v ns :=
  ns_src (hn.below hb) (h.elim (fun h => .inl h.1) (fun ⟨ad, cap, e, _⟩ => .inr ⟨ad, _, cap, e⟩))
theorem info3 : (Try.prog.info? 3).map (fun i => (i.zero, i.size, i.bytes)) = some (some (.int .i64 0), 1, 8) := by kernel_rfl
theorem und22 : Try.prog.underlying 22 = some (.slice 3) := by kernel_rfl
theorem wpl_append_ints {ops : Array Oper} {rest : List Oper} {o : Oper} {a : Act} {w : World} {Q : Exit → Act → World → Prop} (hgd : o.guard = none) (s x : Operand)
    (ho : o.op = .call { callee := .builtin .append, args := #[s, x], argTypes := #[22, 22] })
    (base : Nat) (v : Value) (n : Nat) (xs : List Value) (hs : a.eval s = v) (hown : w.ownsRow base 3 1 v n xs) (vx : Value) (ns : List Int) (hx : a.eval x = vx) (hsrc : AppSrc w vx ns) (h63 : n + ns.length ≤ 1000) (hbase : base ≤ w.heap.size)
    (h : ∀ v' w', w'.ownsRow base 3 1 v' (n + ns.length) (xs ++ ns.map (Value.int .i64)) → w.grownBy w' v.ownBlock → wpList Try.prog ops Q rest (a.put o.dst v') w') :
    wpList Try.prog ops Q (o :: rest) a w := by
  obtain ⟨i0, hi, hz0, hz1, hz2⟩ := info_parts info3
  rcases hsrc with ⟨rfl, rfl⟩ | ⟨ad, cap, rfl, hc⟩
  · exact wpList_append_own_none hgd s x 22 ho base 3 i0 1 und22 hi v n xs hs hown hx (h v w (by simpa using hown) (World.grownBy.refl _ _))
  · exact wpList_append_own _ hgd s x 22 ho base 3 i0 _ 1 8 und22 hi hz0 hz1 hz2 rfl (by decide) v n xs hs hown ad ns.length cap (ns.map (Value.int .i64)) hx (by simp) hc (fun u hu => by obtain ⟨z, -, rfl⟩ := List.mem_map.1 hu; rfl) (by unfold maxLen; omega) (by omega) hbase (fun v' w' h1 h2 _ => h v' w' h1 h2)
theorem own_ns {base : Nat} {w : World} {v : Value} {ns : List Int} (h : w.ownsRow base 3 1 v ns.length (ns.map (Value.int .i64))) (hr : ∀ a ∈ ns, -9223372036854775808 ≤ a ∧ a ≤ 9223372036854775807) : NsOk w v ns := by
  rcases h.2 with ⟨rfl, hz⟩ | ⟨g, cap, cur, rfl, hg, hgb, r1, r2, r3, r4⟩
  · exact ⟨none, 0, by rw [hz], fun j a hj => absurd (List.getElem?_eq_some_iff.1 hj).1 (by omega)⟩
  · refine ⟨_, cap, rfl, fun j a hj => ⟨g, 0, rfl, (Array.getElem?_eq_some_iff.1 hgb).1, ?_, hr a (List.mem_of_getElem? hj)⟩⟩
    have hlt := (List.getElem?_eq_some_iff.1 hj).1
    have e1 : (ns.map (Value.int .i64))[j]? = some (.int .i64 a) := by rw [List.getElem?_map, hj]; rfl
    rw [← r4, List.getElem?_take_of_lt (by omega)] at e1
    simpa [World.cell?, hgb] using e1
theorem ns_range {w : World} {v : Value} {ns : List Int} (h : NsOk w v ns) : ∀ a ∈ ns, -9223372036854775808 ≤ a ∧ a ≤ 9223372036854775807 := fun a ha => by
  obtain ⟨ad, cap, -, h⟩ := h
  obtain ⟨j, hj⟩ := List.getElem?_of_mem ha
  obtain ⟨g, off, -, -, -, h1, h2⟩ := h j a hj
  exact ⟨h1, h2⟩
end
end Go.Proofs.Ytaeiikielelicaa.Pt
