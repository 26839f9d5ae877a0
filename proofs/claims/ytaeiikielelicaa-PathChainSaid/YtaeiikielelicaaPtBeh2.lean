/- The maps of path: what lies behind: the walk. -/
import Derived.Test.YtaeiikielelicaaPtBehind
set_option linter.unusedVariables false
set_option linter.unusedSimpArgs false
set_option linter.unusedSectionVars false
set_option linter.deprecated false
namespace Go.Proofs.Ytaeiikielelicaa.Pt
open Go.RowKit Go.Proofs Go.Am
open Pm
set_option maxRecDepth 1000000
set_option linter.unusedVariables false
set_option linter.unusedSimpArgs false
noncomputable section
theorem cell_four (w : World) (a b c d : Value) (t : TypeId) : ∀ (j : Nat) u, [a, b, c, d][j]? = some u → (w.alloc (.cells #[a, b, c, d] t)).cell? ((⟨w.heap.size, 0, none⟩ : Addr).add j) = some u := by
  intro j u hj
  match j, hj with
  | 0, hj => simp at hj; subst hj; simp [Addr.add]
  | 1, hj => simp at hj; subst hj; simp [Addr.add]
  | 2, hj => simp at hj; subst hj; simp [Addr.add]
  | 3, hj => simp at hj; subst hj; simp [Addr.add]
  | (j + 4), hj => simp at hj
def behindP (A B : Pr → Prop) (p : Pr) : Prop := ∃ y, A (p.1, y) ∧ B (y, p.2)
theorem beh_iff {B : Pr → Prop} {left : List (Pr × Value)} {F : Tm → List Tm} {x y : Tm} (hF : ∀ t u, u ∈ F t ↔ B (t, u) ∧ (t, u) ∉ left.map Prod.fst) (hxy : B (x, y)) (t u : Tm) :
    u ∈ (if t = x then F x ++ [y] else F t) ↔ B (t, u) ∧ (t, u) ∉ (left.filter fun q => decide (q.1 ≠ (x, y))).map Prod.fst := by
  rw [mem_left_keys]
  by_cases ht : t = x
  · subst ht
    rw [if_pos rfl, List.mem_append, List.mem_singleton, hF]
    constructor
    · rintro (h | rfl)
      · exact ⟨h.1, fun h' => h.2 h'.1⟩
      · exact ⟨hxy, fun h' => h'.2 rfl⟩
    · rintro ⟨h1, h2⟩
      by_cases e : u = y
      · exact .inr e
      · exact .inl ⟨h1, fun h' => h2 ⟨h', fun e' => e (Prod.mk.inj e').2⟩⟩
  · rw [if_neg ht, hF]
    exact and_congr Iff.rfl (not_congr ⟨fun h => ⟨h, fun e => ht (Prod.mk.inj e).1⟩, fun h => h.1⟩)
theorem groups_two {w2 wr : World} {B b r : Nat} {l : List (Tm × Value)} {F : Tm → List Tm} (h : Groups wr B b l F) (hr : ∃ m s se c, wr.heap[r]? = some (.mapIter m s se c)) (hg2 : wr.grownBy w2 (some r)) (o1 o2 : Obj) (hb : b ≠ r) : Groups ((w2.alloc o1).alloc o2) B b l F := by
  have e : ∀ i, i < wr.heap.size → i ≠ r → ((w2.alloc o1).alloc o2).heap[i]? = wr.heap[i]? := fun i hi hn => by
    have hs := hg2.size
    exact (Below.heap_alloc _ _ _ (by simp; omega)).trans ((Below.heap_alloc _ _ _ (by omega)).trans (hg2.block i hi (fun e => hn (Option.some.inj e))))
  refine h.keep (e b h.ents.lt hb) fun k ⟨q, hq, hk⟩ => ?_
  obtain ⟨_, hlt, c, hc⟩ := own_cellsB (h.rows q hq) hk
  refine e k hlt fun e' => ?_
  subst e'
  obtain ⟨m, s, se, c', hr⟩ := hr
  rw [hr] at hc
  cases hc
theorem groups_app {w w1 : World} {B b : Nat} {l : List (Tm × Value)} {F : Tm → List Tm} (h : Groups w B b l F) (x : Tm) (hg1 : w.grownBy w1 (some b)) (hB : B ≤ w.heap.size) :
    w1.ownsRow B 41 4 ((Pm.val? x l).getD (.slice none 0 0)) (F x).length (cTs (F x)) ∧ ((Pm.val? x l).getD (.slice none 0 0)).ownBlock ≠ some b ∧ ∀ g i, g < w.heap.size → g ≠ b → w1.cell? ⟨g, i, none⟩ = w.cell? ⟨g, i, none⟩ := by
  have hrow := (h.row x).1
  have hnb : ((Pm.val? x l).getD (.slice none 0 0)).ownBlock ≠ some b := fun e => by
    obtain ⟨_, _, c, hc⟩ := own_cellsB hrow e
    obtain ⟨es, clock, hm, _⟩ := h.ents
    rw [hm] at hc
    cases hc
  refine ⟨own_keep hrow fun k hk => ?_, hnb, fun g i hg hne => ?_⟩
  · obtain ⟨_, hlt, _⟩ := own_cellsB hrow hk
    exact hg1.block k hlt fun e => hnb (by rw [hk, Option.some.inj e])
  · unfold World.cell?
    dsimp only
    rw [hg1.block g hg fun e => hne (Option.some.inj e)]
theorem app_cells {w2 w4 : World} {b m : Nat} (o1 : Obj) (y : Tm) (hm : w2.heap.size = m) (hc : ∀ g i, g < ((w2.alloc o1).alloc (.cells #[.int .i64 y.kind, .string y.s, .string y.lang, .string y.ty] 41)).heap.size → g ≠ b →
    w4.cell? ⟨g, i, none⟩ = ((w2.alloc o1).alloc (.cells #[.int .i64 y.kind, .string y.s, .string y.lang, .string y.ty] 41)).cell? ⟨g, i, none⟩) (hb : b < m) : ∀ (j : Nat) u, (cT y)[j]? = some u → w4.cell? ((⟨m + 1, 0, none⟩ : Addr).add j) = some u := by
  intro j u hj
  have h1 : (w2.alloc o1).heap.size = m + 1 := by simp [hm]
  have := cell_four (w2.alloc o1) _ _ _ _ 41 j u hj
  rw [h1, Addr.add_lit] at this
  rw [Addr.add_lit, hc _ _ (by simp; omega) (by omega)]
  exact this
theorem chain6 {wr w2 w4 w5 w6 : World} {o1 o2 : Obj} {fb r : Nat} {v0 : Value} (hg2 : wr.grownBy w2 (some r)) (hg4 : ((w2.alloc o1).alloc o2).grownBy w4 (some fb)) (h5 : w4.grownBy w5 v0.ownBlock) (hg6 : w5.grownBy w6 (some fb)) (i : Nat) (hi : i < wr.heap.size) (hf : i ≠ fb) (hv : v0.ownBlock ≠ some i) :
    w6.heap[i]? = w2.heap[i]? := by
  have h2 := hg2.size
  have h4 := hg4.size
  have h5s := h5.size
  simp at h4
  exact (hg6.block i (by omega) (fun e => hf (Option.some.inj e))).trans ((h5.block i (by omega) (fun e => hv e.symm)).trans ((hg4.block i (by simp; omega) (fun e => hf (Option.some.inj e))).trans ((Below.heap_alloc _ _ _ (by simp; omega)).trans (Below.heap_alloc _ _ _ (by omega)))))
theorem groups_one {w2 wr : World} {B b r : Nat} {l : List (Tm × Value)} {F : Tm → List Tm} (h : Groups wr B b l F) (hr : ∃ m s se c, wr.heap[r]? = some (.mapIter m s se c)) (hg2 : wr.grownBy w2 (some r)) (o1 : Obj) (hb : b ≠ r) : Groups (w2.alloc o1) B b l F := by
  have e : ∀ i, i < wr.heap.size → i ≠ r → (w2.alloc o1).heap[i]? = wr.heap[i]? := fun i hi hn => by
    have hs := hg2.size
    exact (Below.heap_alloc _ _ _ (by omega)).trans (hg2.block i hi (fun e => hn (Option.some.inj e)))
  refine h.keep (e b h.ents.lt hb) fun k ⟨q, hq, hk⟩ => ?_
  obtain ⟨_, hlt, c, hc⟩ := own_cellsB (h.rows q hq) hk
  refine e k hlt fun e' => ?_
  subst e'
  obtain ⟨m, s, se, c', hr⟩ := hr
  rw [hr] at hc
  cases hc
theorem _root_.Go.Proofs.Ytaeiikielelicaa.Pm.Iter.mapIter {w : World} {r b : Nat} {left : List (Pr × Value)} (h : Iter encP w r b left) : ∃ m s se c, w.heap[r]? = some (.mapIter m s se c) := by
  obtain ⟨es, clock, since, seen, c0, _, hr, _⟩ := h
  exact ⟨_, _, _, _, hr⟩
theorem groups_shape {w : World} {B b : Nat} {l : List (Tm × Value)} {F : Tm → List Tm} (h : Groups w B b l F) (x : Tm) : ∃ ao cap, (Pm.val? x l).getD (Value.slice none 0 0) = .slice ao (F x).length cap := by
  rcases (h.row x).1.2 with ⟨h1, h2⟩ | ⟨g, cap, cur, h1, _⟩
  · exact ⟨none, 0, by rw [h1, h2]⟩
  · exact ⟨_, _, h1⟩
theorem beh_step {A : Pr → Prop} {left : List (Pr × Value)} {F : Tm → List Tm} {x y : Tm} (hxy : A (x, y)) (hsub : ∀ p ∈ left.map Prod.fst, A p) (p : Pr) :
    ((∃ z, (A (p.1, z) ∧ (p.1, z) ∉ left.map Prod.fst) ∧ p.2 ∈ F z) ∨ (p.1 = x ∧ p.2 ∈ (F y).take (F y).length)) ↔ ∃ z, (A (p.1, z) ∧ (p.1, z) ∉ (left.filter fun q => decide (q.1 ≠ (x, y))).map Prod.fst) ∧ p.2 ∈ F z := by
  rw [List.take_length]
  constructor
  · rintro (⟨z, ⟨h1, h2⟩, h3⟩ | ⟨h1, h2⟩)
    · exact ⟨z, ⟨h1, fun h => h2 (mem_left_keys.1 h).1⟩, h3⟩
    · exact ⟨y, ⟨by rw [h1]; exact hxy, fun h => (mem_left_keys.1 h).2 (by rw [h1])⟩, h2⟩
  · rintro ⟨z, ⟨h1, h2⟩, h3⟩
    by_cases hz : (p.1, z) = (x, y)
    · obtain ⟨e1, e2⟩ := Prod.mk.inj hz
      subst e2
      exact .inr ⟨e1, h3⟩
    · exact .inl ⟨z, ⟨h1, fun h => h2 (mem_left_keys.2 ⟨h, hz⟩)⟩, h3⟩
theorem cell_alloc_old (w : World) (o : Obj) {g i : Nat} (h : g < w.heap.size) : (w.alloc o).cell? ⟨g, i, none⟩ = w.cell? ⟨g, i, none⟩ := by
  unfold World.cell?
  dsimp only
  rw [Below.heap_alloc _ _ _ h]
theorem cTs_at {L : List Tm} {j : Nat} {t : Tm} (h : L[j]? = some t) : ∀ i, i < 4 → (cTs L)[j * 4 + i]? = (cT t)[i]? := by
  induction L generalizing j with
  | nil => simp at h
  | cons a L ih =>
    intro i hi
    have e : cTs (a :: L) = cT a ++ cTs L := rfl
    cases j with
    | zero =>
      simp at h
      subst h
      rw [e, List.getElem?_append_left (by simp [cT]; omega)]
      simp
    | succ j =>
      rw [e, List.getElem?_append_right (by simp [cT]; omega), show (j + 1) * 4 + i - (cT a).length = j * 4 + i by simp [cT]; omega]
      exact ih (by simpa using h) i hi
theorem row_four {w : World} {B n cap j : Nat} {ao : Option Addr} {L : List Tm} {t : Tm} (h : w.ownsRow B 41 4 (.slice ao n cap) L.length (cTs L)) (ht : L[j]? = some t) :
    ∃ g, ao = some ⟨g, 0, none⟩ ∧ w.cell? ⟨g, j * 4, none⟩ = some (.int .i64 t.kind) ∧ w.cell? ⟨g, j * 4 + 1, none⟩ = some (.string t.s) ∧ w.cell? ⟨g, j * 4 + 2, none⟩ = some (.string t.lang) ∧ w.cell? ⟨g, j * 4 + 3, none⟩ = some (.string t.ty) := by
  have hj := (List.getElem?_eq_some_iff.1 ht).1
  rcases h.2 with ⟨_, h0⟩ | ⟨g, cap', cur, h1, _⟩
  · omega
  · cases h1
    have hc := h.cells (g := g) rfl
    have at_ : ∀ i u, i < 4 → (cT t)[i]? = some u → w.cell? ⟨g, j * 4 + i, none⟩ = some u := fun i u hi hu => by
      have := hc (j * 4 + i) u ((cTs_at ht i hi).trans hu)
      rw [Addr.add_lit] at this
      simpa using this
    exact ⟨g, rfl, at_ 0 _ (by omega) rfl, at_ 1 _ (by omega) rfl, at_ 2 _ (by omega) rfl, at_ 3 _ (by omega) rfl⟩
theorem pairs_len (L M : List Tm) : (L.flatMap fun x => M.map fun y => (x, y)).length = L.length * M.length := by
  induction L with
  | nil => simp
  | cons a L ih => rw [List.flatMap_cons, List.length_append, ih, List.length_map, List.length_cons, Nat.succ_mul, Nat.add_comm]
set_option maxHeartbeats 4000000 in
theorem behind_calls (a b : Nat) (A B : Pr → Prop) (T : List Tm) (w : World) (ha : PSet w a A) (hb : PSet w b B) (hT : ∀ p, B p → p.1 ∈ T ∧ p.2 ∈ T) (hTl : T.length ≤ 1000) :
    Calls Try.prog 48 #[.map (some a), .map (some b)] w fun e w' => ∃ c, e = .returned (.map (some c)) ∧ w.heap.size ≤ c ∧ PSet w' c (behindP A B) ∧ Below w.heap.size w w' := by
  obtain ⟨lb, hlb, hB⟩ := hb
  obtain ⟨la, hla0, hA⟩ := ha
  have hbn : lb.length ≤ 1000000 := by
    have hnd : (lb.map Prod.fst).Nodup := by
      obtain ⟨es, clock, _, hf⟩ := hlb
      exact hf.apart
    have hsub : lb.map Prod.fst ⊆ T.flatMap fun x => T.map fun y => (x, y) := fun p hp => by
      have := hT p ((hB p).1 hp)
      exact List.mem_flatMap.2 ⟨p.1, this.1, List.mem_map.2 ⟨p.2, this.2, rfl⟩⟩
    have := hnd.length_le_of_subset hsub
    have hl2 : (T.flatMap fun x => T.map fun y => (x, y)).length = T.length * T.length := pairs_len T T
    rw [hl2, List.length_map] at this
    exact Nat.le_trans this (Nat.mul_le_mul hTl hTl)
  obtain ⟨i0, hi, hz0, hz1, hz2⟩ := info_parts (show (Try.prog.info? 41).map (fun i => (i.zero, i.size, i.bytes)) = some (some (.agg #[.int .i64 0, .string ⟨#[]⟩, .string ⟨#[]⟩, .string ⟨#[]⟩]), 4, 56) by kernel_rfl)
  have hmk := make91
  have hmk2 := make62
  have hlb1 : Ents encP (w.alloc (.map #[] 0)) b lb := hlb.keep (Below.heap_alloc _ _ _ hlb.lt)
  go_enter Try.func48, Try.ntmps48
  go_wp2_with (at_range; refine wpl_range _ rfl _ 62 3 rfl und62 b lb rfl hlb1 ?_; intro w1 hi1 hg1 hs1)
  go_frame
  have hblt := hlb.lt
  have hsz1 : w1.heap.size = w.heap.size + 2 := by rw [hs1]; simp
  have hb1 : Below w.heap.size w w1 := ⟨hg1.os, hg1.tape, hg1.output, by omega, fun i hi => (hg1.block i (by simp; omega) (by simp)).trans (Below.heap_alloc _ _ _ hi)⟩
  have hG1 : Groups w1 (w.heap.size + 1) w.heap.size [] (fun _ => []) := (Groups.made w _).keep (hg1.block _ (by simp) (by simp)) (fun k ⟨q, hq, _⟩ => by cases hq)
  simp only [World.size_alloc] at hi1 ⊢
  go_loopg [] (lb.length + 1) (fun gf wx => ∃ left l F, Iter encP wx (w.heap.size + 1) b left ∧ Groups wx (w.heap.size + 1) w.heap.size l F ∧ (∀ t y, y ∈ F t ↔ B (t, y) ∧ (t, y) ∉ left.map Prod.fst) ∧ (∀ t, (F t).length + left.length ≤ lb.length) ∧ (∀ p ∈ left.map Prod.fst, B p) ∧ Below w.heap.size w wx ∧ w.heap.size + 2 ≤ wx.heap.size ∧ left.length < gf)
  case atStart => exact ⟨lb, [], _, hi1, hG1, fun t y => ⟨fun h => by simp at h, fun h => absurd ((hB _).2 h.1) h.2⟩, fun t => by simp, fun p hp => (hB p).1 hp, hb1, by omega, by omega⟩
  case round =>
    obtain ⟨left, l, F, hI, hG, hF, hFn, hsub, hbw, hsz, hfu⟩ := hrel
    obtain ⟨g', rfl⟩ : ∃ g', gk = g' + 1 := ⟨gk - 1, by omega⟩
    clear hG1 hi1
    have hrit : ∃ m s se c, wr.heap[w.heap.size + 1]? = some (.mapIter m s se c) := by
      obtain ⟨es, clock, since, seen, c0, _, hr, _⟩ := hI
      exact ⟨_, _, _, _, hr⟩
    have hla : Ents encP wr a la := hla0.keep (hbw.block a hla0.lt)
    go_wp2_with (first
      | (at_range; refine wpl_range _ rfl _ 62 3 rfl und62 a la rfl (hla.keep (Below.heap_alloc _ _ _ hla.lt)) ?_; intro w7 hi7 hg7 hs7)
      | (at_next; refine wpl_nextP _ rfl _ rfl (w.heap.size + 1) b left rfl hI ?_ ?_; rotate_left; (intro x y v hx w2 hi2 hg2 hs2 hen2; have hG2 := groups_two hG hrit hg2 (.cells #[.int .i64 x.kind, .string x.s, .string x.lang, .string x.ty, .int .i64 y.kind, .string y.s, .string y.lang, .string y.ty] 48) (.cells #[.int .i64 y.kind, .string y.s, .string y.lang, .string y.ty] 41) (by omega); obtain ⟨w4, st, hr4, he4, hst4, hg4, hs4⟩ := entry_put keyT und91 hG2.ents x zero71; obtain ⟨hv0, hv1, hc4⟩ := groups_app hG2 x hg4 (by simp; omega); simp only [encT] at hr4; have hnews := app_cells _ y hs2 hc4 (by omega); generalize hve : (Pm.val? x l).getD (Value.slice none 0 0) = v0 at hr4 he4 hv0 hv1); rotate_left; intro h0)
      | (at_builtin; refine wpList_append_own_at _ rfl (.tmp 21) (.tmp 24) 71 rfl (w.heap.size + 1) 41 i0 (.agg #[.int .i64 0, .string ⟨#[]⟩, .string ⟨#[]⟩, .string ⟨#[]⟩]) 4 56 Try.underlying71 hi hz0 hz1 hz2 rfl (by decide) v0 (F x).length (cTs (F x)) ?_ ?_ ⟨wr.heap.size + 1, 0, none⟩ 1 1 (cT y) ?_ ?_ ?_ ?_ ?_ ?_ ?_ ?_; exact rfl; exact hv0; exact rfl; exact rfl; exact hnews; (intro u hu; simp [cT] at hu; rcases hu with rfl | rfl | rfl | rfl <;> rfl); (have := hFn x; unfold maxLen; omega); (have := hFn x; omega); (have := hg4.size; simp at this; omega); intro v5 w5 hown5 hgrow5 hnil5 hat5; have hlt4 := he4.lt; obtain ⟨w6, hr6, he6, hg6, hs6⟩ := entry_store (mt := 91) keyT (he4.keep (hgrow5.block _ hlt4 (fun e => hv1 e.symm))) (hst4.keep (hgrow5.block _ hlt4 (fun e => hv1 e.symm))) v5))
    · go_frame
      subst h0
      have hfl := hG.ents.lt
      have hG7 : Groups w7 (w.heap.size + 1) w.heap.size l F := hG.keep ((hg7.block _ (by simp; omega) (by simp)).trans (Below.heap_alloc _ _ _ hfl)) (fun k ⟨q, hq, hk⟩ => by
        have := (own_cellsB (hG.rows q hq) hk).2.1
        exact (hg7.block _ (by simp; omega) (by simp)).trans (Below.heap_alloc _ _ _ this))
      have hF7 : ∀ t y, y ∈ F t ↔ B (t, y) := fun t y => (hF t y).trans ⟨fun h => h.1, fun h => ⟨h, by simp⟩⟩
      have hF7n : ∀ t, (F t).length ≤ 1000000 := fun t => by have := hFn t; omega
      have hb7 : Below w.heap.size w w7 := ⟨hg7.os.trans hbw.os, hg7.tape.trans hbw.tape, hg7.output.trans hbw.output, by have := hg7.size; have := hbw.size; simp at *; omega, fun i hi => ((hg7.block i (by have := hbw.size; simp; omega) (by simp)).trans (Below.heap_alloc _ _ _ (by have := hbw.size; omega))).trans (hbw.block i hi)⟩
      have hP7 : PSet w7 wr.heap.size (fun p => ∃ y, (A (p.1, y) ∧ (p.1, y) ∉ la.map Prod.fst) ∧ p.2 ∈ F y) := ⟨[], (Ents.made encP wr).keep (hg7.block _ (by simp) (by simp)), fun p => ⟨fun h => by simp at h, fun ⟨y, h, _⟩ => absurd ((hA _).2 h.1) h.2⟩⟩
      rw [World.size_alloc] at hs7
      simp only [World.size_alloc] at hi7 ⊢
      clear hlb1
      obtain ⟨C, hC⟩ : ∃ C, wr.heap.size = C := ⟨_, rfl⟩
      rw [hC] at hi7 hs7 hP7 ⊢
      have hwC : w.heap.size + 2 ≤ C := by omega
      have hzC := hla0.lt
      clear hG hI hF hFn hla hbw hrit hg7 hfl hC hsz hfu hsub
      go_loopg [] (la.length + 1) (fun gf wx => ∃ left2, Iter encP wx (C + 1) a left2 ∧ Groups wx (w.heap.size + 1) w.heap.size l F ∧ PSet wx C (fun p => ∃ y, (A (p.1, y) ∧ (p.1, y) ∉ left2.map Prod.fst) ∧ p.2 ∈ F y) ∧ (∀ p ∈ left2.map Prod.fst, A p) ∧ Below w.heap.size w wx ∧ C + 2 ≤ wx.heap.size ∧ left2.length < gf)
      case atStart => exact ⟨la, hi7, hG7, hP7, fun p hp => (hA p).1 hp, hb7, by omega, by omega⟩
      case round =>
        clear hG7 hP7 hi7 hs7
        obtain ⟨left2, hI, hG, hP, hsub, hbw, hsz, hfu⟩ := hrel
        obtain ⟨g2, rfl⟩ : ∃ g2, gk = g2 + 1 := ⟨gk - 1, by omega⟩
        go_wp2_with (first
          | (at_next; refine wpl_nextP _ rfl _ rfl (C + 1) a left2 rfl hI ?_ ?_; rotate_left; (intro x y v hx w2 hi2 hg2 hs2 hen2; have hG2 := groups_one hG hI.mapIter hg2 (.cells #[.int .i64 x.kind, .string x.s, .string x.lang, .string x.ty, .int .i64 y.kind, .string y.s, .string y.lang, .string y.ty] 48) (by omega); obtain ⟨ao, cap, hve⟩ := groups_shape hG2 y); rotate_left; intro h0)
          | (refine wpl_lookup _ keyT rfl _ _ 91 71 false rfl und91 (.slice none 0 0) (zero71 _) w.heap.size l rfl hG2.ents y rfl ?_; simp only [Bool.false_eq_true, if_false]; rw [hve]))
        · go_ret
          subst h0
          exact ⟨C, rfl, by omega, hP.iff (fun p => ⟨fun ⟨y, h1, h2⟩ => ⟨y, h1.1, (hF7 _ _).1 h2⟩, fun ⟨y, h1, h2⟩ => ⟨y, ⟨h1, by simp⟩, (hF7 _ _).2 h2⟩⟩), hbw⟩
        · obtain ⟨bx, hbx⟩ : ∃ bx, wr.heap.size = bx := ⟨_, rfl⟩
          obtain ⟨W, hW⟩ : ∃ W, w2.alloc (.cells #[.int .i64 x.kind, .string x.s, .string x.lang, .string x.ty, .int .i64 y.kind, .string y.s, .string y.lang, .string y.ty] 48) = W := ⟨_, rfl⟩
          have hlts := hI.lts
          have hW2 : ∀ i, i < bx → i ≠ C + 1 → W.heap[i]? = wr.heap[i]? := fun i hi hn => by
            rw [← hW]
            exact (Below.heap_alloc _ _ _ (by omega)).trans (hg2.block i (by omega) (fun e => hn (Option.some.inj e)))
          have hIW : Iter encP W (C + 1) a (left2.filter fun q => decide (q.1 ≠ (x, y))) := by
            rw [← hW]
            exact hi2.keep (Below.heap_alloc _ _ _ (by omega)) (Below.heap_alloc _ _ _ (by omega))
          have hPW : PSet W C (fun p => ∃ y, (A (p.1, y) ∧ (p.1, y) ∉ left2.map Prod.fst) ∧ p.2 ∈ F y) := hP.keep (hW2 C (by have := hP.lt; omega) (by omega))
          have hbW : Below w.heap.size w W := ⟨by rw [← hW]; exact hg2.os.trans hbw.os, by rw [← hW]; exact hg2.tape.trans hbw.tape, by rw [← hW]; exact hg2.output.trans hbw.output, by rw [← hW]; have := hbw.size; simp; omega, fun i hi => (hW2 i (by omega) (by omega)).trans (hbw.block i hi)⟩
          have hsW : W.heap.size = bx + 1 := by rw [← hW]; simp; omega
          have hx4 : ∀ (i : Nat) u, (cT x)[i]? = some u → W.cell? ⟨bx, i, none⟩ = some u := fun i u hi => by
            rw [← hW, ← hbx, ← hs2]
            match i, hi with
            | 0, hi => cases hi; simp
            | 1, hi => cases hi; simp
            | 2, hi => cases hi; simp
            | 3, hi => cases hi; simp
            | i + 4, hi => simp [cT] at hi
          have hxA : A (x, y) := hsub _ (List.mem_map_of_mem (f := Prod.fst) hx)
          have hflt := (List.length_filter_lt_length_iff_exists (p := fun q : Pr × Value => decide (q.1 ≠ (x, y))) (l := left2)).2 ⟨((x, y), v), hx, by simp⟩
          rw [hW] at hG2 ⊢
          rw [hbx]
          have hbC : C + 2 ≤ bx := by omega
          clear hW hW2 hi2 hg2 hs2 hen2 hP hG hI hbw hbx hsz hlts
          go_loopg [40] ((F y).length + 1) (fun gf i wx => ∃ j : Nat, i = .int .i64 (j : Int) ∧ j ≤ (F y).length ∧ Iter encP wx (C + 1) a (left2.filter fun q => decide (q.1 ≠ (x, y))) ∧ Groups wx (w.heap.size + 1) w.heap.size l F ∧ PSet wx C (fun p => (∃ y, (A (p.1, y) ∧ (p.1, y) ∉ left2.map Prod.fst) ∧ p.2 ∈ F y) ∨ (p.1 = x ∧ p.2 ∈ (F y).take j)) ∧ (∀ (i : Nat) u, (cT x)[i]? = some u → wx.cell? ⟨bx, i, none⟩ = some u) ∧ Below w.heap.size w wx ∧ bx + 1 ≤ wx.heap.size ∧ (F y).length < gf + j)
          case atStart => exact ⟨0, rfl, by omega, hIW, hG2, hPW.iff (fun p => ⟨.inl, fun h => h.elim id (fun h => by simp at h)⟩), hx4, hbW, by omega, by omega⟩
          case round =>
            clear hIW hG2 hPW hx4 hbW hsW
            obtain ⟨j, rfl, hj, hI, hG, hP, hx4, hbw, hsz, hfj⟩ := hrel
            by_cases hlt : j < (F y).length
            · have hltI : (j : Int) < ((F y).length : Int) := by omega
              obtain ⟨g3, rfl⟩ : ∃ g3, gk = g3 + 1 := ⟨gk - 1, by omega⟩
              obtain ⟨t, ht⟩ : ∃ t, (F y)[j]? = some t := ⟨(F y)[j], List.getElem?_eq_getElem hlt⟩
              have hrow := (hG.row y).1
              rw [hve] at hrow
              obtain ⟨g, rfl, k0, k1, k2, k3⟩ := row_four hrow ht
              obtain ⟨lp, hlp, hPS⟩ := hP
              have hClt := hlp.lt
              have hlp' : ∀ o, Ents encP (wr.alloc o) C lp := fun o => hlp.keep (Below.heap_alloc _ _ _ hClt)
              have hx0 : ∀ o, (wr.alloc o).cell? ⟨bx, 0, none⟩ = some (.int .i64 x.kind) := fun o => (cell_alloc_old wr o (by omega)).trans (hx4 0 _ rfl)
              have hx1 : ∀ o, (wr.alloc o).cell? ⟨bx, 1, none⟩ = some (.string x.s) := fun o => (cell_alloc_old wr o (by omega)).trans (hx4 1 _ rfl)
              have hx2 : ∀ o, (wr.alloc o).cell? ⟨bx, 2, none⟩ = some (.string x.lang) := fun o => (cell_alloc_old wr o (by omega)).trans (hx4 2 _ rfl)
              have hx3 : ∀ o, (wr.alloc o).cell? ⟨bx, 3, none⟩ = some (.string x.ty) := fun o => (cell_alloc_old wr o (by omega)).trans (hx4 3 _ rfl)
              have htk : (F y).take (j + 1) = (F y).take j ++ [t] := by rw [List.take_add_one, ht]; rfl
              have hlts := hI.lts
              have hFy := hF7n y
              go_wp2_with (refine wpl_update _ keyP rfl _ _ _ 62 3 rfl und62 C lp rfl (hlp' _) (x, t) (.int .i64 1) rfl rfl ?_; intro w3 he3 hg3 hs3)
              have keep3 : ∀ i, i < wr.heap.size → i ≠ C → w3.heap[i]? = wr.heap[i]? := fun i hi hn =>
                (hg3.block i (by simp; omega) (fun e => hn (Option.some.inj e))).trans (Below.heap_alloc _ _ _ hi)
              have hs3' : w3.heap.size = wr.heap.size + 1 := by rw [hs3]; simp
              go_roundg g3
              case measure => omega
              case rel =>
                refine ⟨j + 1, congrArg (Value.int .i64) (by omega), by omega, hI.keep (keep3 _ (by omega) (by omega)) (keep3 _ (by omega) (by omega)), hG.keep (keep3 _ hG.ents.lt (by omega)) (fun k ⟨q, hq, hk⟩ => ?_), (PSet.put (x, t) (.int .i64 1) he3 hPS).iff (fun p => ?_), fun i u hi => ?_, ⟨hg3.os.trans hbw.os, hg3.tape.trans hbw.tape, hg3.output.trans hbw.output, by have := hbw.size; omega, fun i hi => (keep3 i (by have := hbw.size; omega) (by omega)).trans (hbw.block i hi)⟩, by omega, by omega⟩
                · obtain ⟨_, hk2, c, hc⟩ := own_cellsB (hG.rows q hq) hk
                  refine keep3 k hk2 fun e => ?_
                  subst e
                  obtain ⟨es, clock, hm, _⟩ := hlp
                  rw [hm] at hc
                  cases hc
                · rw [htk]
                  constructor
                  · rintro (rfl | h | ⟨h1, h2⟩)
                    · exact .inr ⟨rfl, by simp⟩
                    · exact .inl h
                    · exact .inr ⟨h1, List.mem_append_left _ h2⟩
                  · rintro (h | ⟨h1, h2⟩)
                    · exact .inr (.inl h)
                    · rw [List.mem_append, List.mem_singleton] at h2
                      rcases h2 with h2 | h2
                      · exact .inr (.inr ⟨h1, h2⟩)
                      · exact .inl (Prod.ext h1 h2)
                · have := hx4 i u hi
                  unfold World.cell? at this ⊢
                  dsimp only at this ⊢
                  rw [keep3 bx (by omega) (by omega)]
                  exact this
            · have hltI : ¬ (j : Int) < ((F y).length : Int) := by omega
              obtain rfl : j = (F y).length := by omega
              go_wp2
              go_roundg g2
              case measure => omega
              case rel => exact ⟨_, hI, hG, hP.iff (fun p => beh_step hxA hsub p), fun p hp => hsub p (mem_left_keys.1 hp).1, hbw, by omega, by omega⟩
    · have hch := fun i hi hf hv => chain6 hg2 hg4 hgrow5 hg6 i hi hf hv
      have hlts := hI.lts
      have hvb : ∀ i, i < w.heap.size + 1 → v0.ownBlock ≠ some i := fun i hi e => by
        have := (own_cellsB hv0 e).1
        omega
      have hvr : v0.ownBlock ≠ some (w.heap.size + 1) := fun e => by
        obtain ⟨_, _, c, hc⟩ := own_cellsB hv0 e
        obtain ⟨es, clock, since, seen, c0, _, hr, _⟩ := hi2
        rw [hg4.block _ (by simp; omega) (fun e => by have := Option.some.inj e; omega), Below.heap_alloc _ _ _ (by simp; omega), Below.heap_alloc _ _ _ (by omega), hr] at hc
        cases hc
      have hxy : (x, y) ∈ left.map Prod.fst := List.mem_map_of_mem (f := Prod.fst) hx
      have hflt := (List.length_filter_lt_length_iff_exists (p := fun q : Pr × Value => decide (q.1 ≠ (x, y))) (l := left)).2 ⟨((x, y), v), hx, by simp⟩
      have hsz6 : wr.heap.size + 2 ≤ w6.heap.size := by
        have h4 := hg4.size
        have h5 := hgrow5.size
        have h6 := hg6.size
        simp at h4
        omega
      go_roundg g'
      case measure => omega
      case rel =>
        have hgr := Groups.grow (y := y) hG2 hg4 hs4 hown5 (by rw [hve]; exact hgrow5) (by rw [hve]; exact hat5) (by rw [hve]; exact he6) hg6
        refine ⟨_, _, _, hi2.keep (hch b (by omega) (by omega) (hvb b (by omega))) (hch _ (by omega) (by omega) hvr), hgr, fun t u => beh_iff hF (hsub _ hxy) t u, fun t => ?_, fun p hp => ?_, ?_, by omega, by omega⟩
        · have := hFn t
          have hx2 := hFn x
          by_cases ht : t = x
          · subst ht
            simp only [if_true, List.length_append, List.length_cons, List.length_nil]
            omega
          · simp only [if_neg ht]
            omega
        · rw [mem_left_keys] at hp
          exact hsub p hp.1
        · exact ⟨hg6.os.trans (hgrow5.os.trans (hg4.os.trans (hg2.os.trans hbw.os))), hg6.tape.trans (hgrow5.tape.trans (hg4.tape.trans (hg2.tape.trans hbw.tape))), hg6.output.trans (hgrow5.output.trans (hg4.output.trans (hg2.output.trans hbw.output))), by have := hbw.size; omega,
            fun i hi => (hch i (by have := hbw.size; omega) (by omega) (hvb i (by omega))).trans ((hg2.block i (by have := hbw.size; omega) (fun e => by have := Option.some.inj e; omega)).trans (hbw.block i hi))⟩
end
end Go.Proofs.Ytaeiikielelicaa.Pt
