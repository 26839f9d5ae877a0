/- The reference's rows: both, after, plus, all. -/
import Derived.Test.YtaeiikielelicaaPtPut
set_option linter.unusedVariables false
set_option linter.unusedSimpArgs false
set_option linter.unusedSectionVars false
set_option linter.deprecated false
namespace Go.Proofs.Ytaeiikielelicaa.Pt
open Go.RowKit Go.Proofs Go.Am
open Pm
set_option maxRecDepth 1000000
set_option linter.unusedVariables false
set_option linter.unusedSimpArgs false
noncomputable section
theorem put_calls {base : Nat} {v : Value} {l : List Pr} {w : World} (h : RowP base w v l) (hb : base ≤ w.heap.size) (hs : Sorted l) (hn : l.length ≤ 1000000000) (x y : Tm) : PutOk base v l x y w := by
  rcases h.2 with ⟨rfl, hz⟩ | ⟨g, cap, cur, rfl, hg, hgb, r1, r2, r3, r4⟩
  · obtain rfl : l = [] := List.eq_nil_of_length_eq_zero hz
    exact put_none base x y w hb
  · exact put_some base g cap cur l x y w hg hgb r1 r2 r3 r4 hb hs hn
theorem Sorted.nodup {l : List Pr} (h : Sorted l) : l.Nodup := by
  unfold Sorted at h
  rw [List.nodup_iff_pairwise_ne]
  refine List.Pairwise.imp ?_ h
  intro a b hab e
  subst e
  exact lt_irrefl _ hab
theorem RowP.below {b : Nat} {w w' : World} {v : Value} {l : List Pr} (h : RowP b w v l) (hb : Below w.heap.size w w') : RowP b w' v l := own_keep h (fun k hk => hb.block k (own_cellsB h hk).2.1)
theorem RowP.view {b : Nat} {w : World} {v : Value} {l : List Pr} (h : RowP b w v l) : ∃ ad cap, v = .slice ad l.length cap ∧ ∀ (j : Nat) (x y : Tm), l[j]? = some (x, y) → ∃ g, ad = some ⟨g, 0, none⟩ ∧
    (w.cell? ⟨g, j * 8, none⟩ = some (.int .i64 x.kind) ∧ w.cell? ⟨g, j * 8 + 1, none⟩ = some (.string x.s) ∧ w.cell? ⟨g, j * 8 + 2, none⟩ = some (.string x.lang) ∧ w.cell? ⟨g, j * 8 + 3, none⟩ = some (.string x.ty) ∧
    w.cell? ⟨g, j * 8 + 4, none⟩ = some (.int .i64 y.kind) ∧ w.cell? ⟨g, j * 8 + 5, none⟩ = some (.string y.s) ∧ w.cell? ⟨g, j * 8 + 6, none⟩ = some (.string y.lang) ∧ w.cell? ⟨g, j * 8 + 7, none⟩ = some (.string y.ty)) := by
  rcases h.2 with ⟨rfl, hz⟩ | ⟨g, cap, cur, rfl, hg, hgb, r1, r2, r3, r4⟩
  · exact ⟨none, 0, by rw [hz], fun j x y hj => absurd (List.getElem?_eq_some_iff.1 hj).1 (by omega)⟩
  · exact ⟨_, cap, rfl, fun j x y hj => ⟨g, rfl, rowP8 hgb r4 hj⟩⟩
theorem below_own {B : Nat} {w wr w' : World} {v : Value} {l : List Pr} (hbw : Below B w wr) (hB : B ≤ w.heap.size) (h : RowP B wr v l) (hg : wr.grownBy w' v.ownBlock) : Below B w w' :=
  hbw.grown hg (Nat.le_trans hB hbw.size) (fun k e => (own_cellsB h e).1)
/-- the terms of a row's pairs. -/
def In2 (T : List Tm) (l : List Pr) : Prop := ∀ p ∈ l, p.1 ∈ T ∧ p.2 ∈ T
theorem in2_len {T : List Tm} {l : List Pr} (h : In2 T l) (hs : Sorted l) (hT : T.length ≤ 1000) : l.length ≤ 1000000 := by
  have h4 : ∀ p ∈ l, p ∈ T.flatMap fun x => T.map fun y => (x, y) := fun p hp => List.mem_flatMap.2 ⟨p.1, (h p hp).1, List.mem_map.2 ⟨p.2, (h p hp).2, rfl⟩⟩
  have h5 := hs.nodup.length_le_of_subset h4
  rw [pairs_len] at h5
  have := Nat.mul_le_mul hT hT
  omega
def RefPost (base : Nat) (S : Pr → Prop) (w : World) (e : Ending) (w' : World) : Prop := ∃ (rv : Value) (l : List Pr), e = .returned rv ∧ Sorted l ∧ (∀ p, p ∈ l ↔ S p) ∧ RowP base w' rv l ∧ Below w.heap.size w w'
theorem RefPost.mk {base : Nat} {S : Pr → Prop} {w w' : World} {rv : Value} (l : List Pr) (h1 : Sorted l) (h2 : ∀ p, p ∈ l ↔ S p) (h3 : RowP base w' rv l) (h4 : Below w.heap.size w w') : RefPost base S w (.returned rv) w' := ⟨rv, l, rfl, h1, h2, h3, h4⟩
def RefOk (f : Nat) (args : Array Value) (base : Nat) (S : Pr → Prop) (w : World) : Prop := Calls Try.prog f args w (RefPost base S w)
theorem view_at {b : Nat} {w : World} {ad : Option Addr} {n c : Nat} {l : List Pr} (h : RowP b w (.slice ad n c) l) {j : Nat} {x y : Tm} (hj : l[j]? = some (x, y)) : ∃ g, ad = some ⟨g, 0, none⟩ ∧
    (w.cell? ⟨g, j * 8, none⟩ = some (.int .i64 x.kind) ∧ w.cell? ⟨g, j * 8 + 1, none⟩ = some (.string x.s) ∧ w.cell? ⟨g, j * 8 + 2, none⟩ = some (.string x.lang) ∧ w.cell? ⟨g, j * 8 + 3, none⟩ = some (.string x.ty) ∧
    w.cell? ⟨g, j * 8 + 4, none⟩ = some (.int .i64 y.kind) ∧ w.cell? ⟨g, j * 8 + 5, none⟩ = some (.string y.s) ∧ w.cell? ⟨g, j * 8 + 6, none⟩ = some (.string y.lang) ∧ w.cell? ⟨g, j * 8 + 7, none⟩ = some (.string y.ty)) := by
  obtain ⟨ad', cap', e, hv⟩ := h.view
  cases e
  exact hv j x y hj
theorem row_cells {w : World} {g : Nat} {cur : Array Value} {l : List Pr} (hb : w.heap[g]? = some (.cells cur 48 (0, 0))) (ht : cur.toList.take (l.length * 8) = l.flatMap cP) : ∀ j u, (l.flatMap cP)[j]? = some u → w.cell? ((⟨g, 0, none⟩ : Addr).add j) = some u := fun j u hj => by
  have e : (⟨g, 0, none⟩ : Addr).add j = ⟨g, j, none⟩ := by
    unfold Addr.add
    split <;> simp_all
  rw [e]
  have hlt := (List.getElem?_eq_some_iff.1 hj).1
  rw [flat_len] at hlt
  rw [← ht, List.getElem?_take_of_lt (by omega)] at hj
  simpa [World.cell?, hb] using hj
theorem flat_one (l : List Pr) : ∀ v ∈ l.flatMap cP, v.oneCell' = true := fun v hv => by
  obtain ⟨p, _, hp⟩ := List.mem_flatMap.1 hv
  exact oneCP p v hp
set_option maxHeartbeats 1000000 in
theorem both_ref (va vb : Value) (la lb : List Pr) (T : List Tm) (w : World) (ha : RowP 0 w va la) (hb : RowP 0 w vb lb) (hsa : Sorted la) (hTa : In2 T la) (hTb : In2 T lb) (hsb : Sorted lb) (hT : T.length ≤ 1000) :
    RefOk 34 #[va, vb] w.heap.size (fun p => p ∈ la ∨ p ∈ lb) w := by
  unfold RefOk
  obtain ⟨i0, hi, hz0, hz1, hz2⟩ := info_parts info48
  have hna := in2_len hTa hsa hT
  have hnb := in2_len hTb hsb hT
  obtain ⟨adb, cb, rfl, -⟩ := hb.view
  rcases ha.2 with ⟨rfl, hz⟩ | ⟨ga, capa, cura, rfl, -, hga, r1, r2, r3, r4⟩
  · obtain rfl : la = [] := List.eq_nil_of_length_eq_zero hz
    have hB : Below w.heap.size w (w.alloc (.cells #[] 48)) := (Below.refl _ w).alloc (Nat.le_refl _) _
    have hrow0 : RowP w.heap.size (w.alloc (.cells #[] 48)) (.slice (some ⟨w.heap.size, 0, none⟩) 0 0) [] := ⟨rfl, .inr ⟨w.heap.size, 0, #[], rfl, Nat.le_refl _, World.alloc_heap_new w _, Nat.le_refl _, Nat.zero_le _, rfl, rfl⟩⟩
    go_enter Try.func34, Try.ntmps34
    go_wp2
    go_loopg [5, 6] (lb.length + 1) (fun gf l i wx => ∃ (j : Nat) (lc : List Pr), i = .int .i64 (j : Int) ∧ j ≤ lb.length ∧ RowP w.heap.size wx l lc ∧ Sorted lc ∧ (∀ p, p ∈ lc ↔ p ∈ ([] : List Pr) ∨ p ∈ lb.take j) ∧ Below w.heap.size w wx ∧ lb.length < gf + j)
    case atStart => exact ⟨0, [], rfl, by omega, hrow0, List.Pairwise.nil, fun p => by simp, hB, by omega⟩
    case round =>
      obtain ⟨j, lc, rfl, hj, hrow, hsc, hmem, hbw, hfu⟩ := hrel
      clear hB hrow0
      by_cases hlt : j < lb.length
      · have hltI : (j : Int) < (lb.length : Int) := by omega
        obtain ⟨g', rfl⟩ : ∃ g', gk = g' + 1 := ⟨gk - 1, by omega⟩
        obtain ⟨⟨x, y⟩, hq⟩ : ∃ q, lb[j]? = some q := ⟨lb[j], List.getElem?_eq_getElem hlt⟩
        obtain ⟨gb, rfl, k0, k1, k2, k3, k4, k5, k6, k7⟩ := view_at (hb.below hbw) hq
        have hTc : In2 T lc := fun p hp => ((hmem p).1 hp).elim (hTa p) (fun h => hTb p (List.mem_of_mem_take h))
        have hput := put_calls hrow hbw.size hsc (by have := in2_len hTc hsc hT; omega) x y
        unfold PutOk at hput
        have htk : lb.take (j + 1) = lb.take j ++ [(x, y)] := by rw [List.take_add_one, hq]; rfl
        have hgo : ∀ w1, wr.grownBy w1 u5.ownBlock → Below w.heap.size w w1 := fun w1 hg => below_own hbw (Nat.le_refl _) hrow hg
        clear hq
        go_wp2_with (go_at_call 32; refine hput.mono ?_; rintro e w1 ⟨v', l', rfl, h1, h2, h3, h4⟩)
        go_roundg g'
        case measure => omega
        case rel =>
          refine ⟨j + 1, l', congrArg (Value.int .i64) (by omega), by omega, h3, h1, fun p => ?_, hgo w1 h4, by omega⟩
          rw [h2, hmem, htk, List.mem_append, List.mem_singleton]
          constructor
          · rintro (h | h | h)
            · exact .inr (.inr h)
            · exact .inl h
            · exact .inr (.inl h)
          · rintro (h | h | h)
            · exact .inr (.inl h)
            · exact .inr (.inr h)
            · exact .inl h
      · have hltI : ¬ (j : Int) < (lb.length : Int) := by omega
        go_wp2
        go_ret
        exact RefPost.mk lc hsc (fun p => by rw [hmem, List.take_of_length_le (by omega)]; try simp) hrow hbw
  · have hB : Below w.heap.size w (w.alloc (.cells #[] 48)) := (Below.refl _ w).alloc (Nat.le_refl _) _
    have hrow0 : (w.alloc (.cells #[] 48)).ownsRow w.heap.size 48 8 (.slice (some ⟨w.heap.size, 0, none⟩) 0 0) 0 [] := ⟨rfl, .inr ⟨w.heap.size, 0, #[], rfl, Nat.le_refl _, World.alloc_heap_new w _, Nat.le_refl _, Nat.zero_le _, rfl, rfl⟩⟩
    have hgal := (Array.getElem?_eq_some_iff.1 hga).1
    have hnews := row_cells ((hB.block ga hgal).trans hga) r4
    go_enter Try.func34, Try.ntmps34
    go_wp2_with (at_builtin; refine wpList_append_own _ rfl (.tmp 7) (.tmp 8) 31 rfl w.heap.size 48 i0 _ 8 112 und31 hi hz0 hz1 hz2 rfl (by decide) _ 0 [] rfl hrow0 ⟨ga, 0, none⟩ la.length capa (la.flatMap cP) rfl (flat_len la) hnews (flat_one la) (by unfold maxLen; omega) (by omega) (by simp) ?_; intro v' w2 hown' hgrow hnil; have hown2 : RowP w.heap.size w2 v' la := (by simpa [RowP] using hown'); obtain ⟨ad2, cap2, rfl, -⟩ := hown2.view; have hB2 := below_own hB (Nat.le_refl _) (l := []) hrow0 hgrow; clear hown' hgrow hnil hnews hB hrow0 r4)
    go_loopg [5, 6] (lb.length + 1) (fun gf l i wx => ∃ (j : Nat) (lc : List Pr), i = .int .i64 (j : Int) ∧ j ≤ lb.length ∧ RowP w.heap.size wx l lc ∧ Sorted lc ∧ (∀ p, p ∈ lc ↔ p ∈ la ∨ p ∈ lb.take j) ∧ Below w.heap.size w wx ∧ lb.length < gf + j)
    case atStart => exact ⟨0, la, rfl, by omega, hown2, hsa, fun p => by simp, hB2, by omega⟩
    case round =>
      obtain ⟨j, lc, rfl, hj, hrow, hsc, hmem, hbw, hfu⟩ := hrel
      clear hown2 hB2
      by_cases hlt : j < lb.length
      · have hltI : (j : Int) < (lb.length : Int) := by omega
        obtain ⟨g', rfl⟩ : ∃ g', gk = g' + 1 := ⟨gk - 1, by omega⟩
        obtain ⟨⟨x, y⟩, hq⟩ : ∃ q, lb[j]? = some q := ⟨lb[j], List.getElem?_eq_getElem hlt⟩
        obtain ⟨gb, rfl, k0, k1, k2, k3, k4, k5, k6, k7⟩ := view_at (hb.below hbw) hq
        have hTc : In2 T lc := fun p hp => ((hmem p).1 hp).elim (hTa p) (fun h => hTb p (List.mem_of_mem_take h))
        have hput := put_calls hrow hbw.size hsc (by have := in2_len hTc hsc hT; omega) x y
        unfold PutOk at hput
        have htk : lb.take (j + 1) = lb.take j ++ [(x, y)] := by rw [List.take_add_one, hq]; rfl
        have hgo : ∀ w1, wr.grownBy w1 u5.ownBlock → Below w.heap.size w w1 := fun w1 hg => below_own hbw (Nat.le_refl _) hrow hg
        clear hq
        go_wp2_with (go_at_call 32; refine hput.mono ?_; rintro e w1 ⟨v', l', rfl, h1, h2, h3, h4⟩)
        go_roundg g'
        case measure => omega
        case rel =>
          refine ⟨j + 1, l', congrArg (Value.int .i64) (by omega), by omega, h3, h1, fun p => ?_, hgo w1 h4, by omega⟩
          rw [h2, hmem, htk, List.mem_append, List.mem_singleton]
          constructor
          · rintro (h | h | h)
            · exact .inr (.inr h)
            · exact .inl h
            · exact .inr (.inl h)
          · rintro (h | h | h)
            · exact .inr (.inl h)
            · exact .inr (.inr h)
            · exact .inl h
      · have hltI : ¬ (j : Int) < (lb.length : Int) := by omega
        go_wp2
        go_ret
        exact RefPost.mk lc hsc (fun p => by rw [hmem, List.take_of_length_le (by omega)]; try simp) hrow hbw
/-- what two rows, one behind the other, lead between. -/
def afterP (la lb : List Pr) (p : Pr) : Prop := ∃ y, (p.1, y) ∈ la ∧ (y, p.2) ∈ lb
theorem after_snoc {la lb : List Pr} {a y : Tm} {p : Pr} : afterP (la ++ [(a, y)]) lb p ↔ afterP la lb p ∨ (p.1 = a ∧ (y, p.2) ∈ lb) := by
  unfold afterP
  constructor
  · rintro ⟨z, h1, h2⟩
    rw [List.mem_append, List.mem_singleton] at h1
    rcases h1 with h1 | h1
    · exact .inl ⟨z, h1, h2⟩
    · obtain ⟨e1, e2⟩ := Prod.mk.inj h1
      exact .inr ⟨e1, by rw [← e2]; exact h2⟩
  · rintro (⟨z, h1, h2⟩ | ⟨e, h2⟩)
    · exact ⟨z, List.mem_append_left _ h1, h2⟩
    · exact ⟨y, by rw [e]; simp, h2⟩
set_option maxHeartbeats 2000000 in
theorem after_ref (va vb : Value) (la lb : List Pr) (T : List Tm) (w : World) (ha : RowP 0 w va la) (hb : RowP 0 w vb lb) (hsa : Sorted la) (hTa : In2 T la) (hTb : In2 T lb) (hsb : Sorted lb) (hT : T.length ≤ 1000) :
    RefOk 33 #[va, vb] w.heap.size (afterP la lb) w := by
  unfold RefOk
  have hna := in2_len hTa hsa hT
  have hnb := in2_len hTb hsb hT
  obtain ⟨ada, ca, rfl, -⟩ := ha.view
  obtain ⟨adb, cb, rfl, -⟩ := hb.view
  have hrow0 : RowP w.heap.size w (.slice none 0 0) [] := ⟨rfl, .inl ⟨rfl, rfl⟩⟩
  go_enter Try.func33, Try.ntmps33
  go_wp2
  go_loopg [5, 6] (la.length + 1) (fun gf l i wx => ∃ (j : Nat) (lc : List Pr), i = .int .i64 (j : Int) ∧ j ≤ la.length ∧ RowP w.heap.size wx l lc ∧ Sorted lc ∧ (∀ p, p ∈ lc ↔ afterP (la.take j) lb p) ∧ Below w.heap.size w wx ∧ la.length < gf + j)
  case atStart => exact ⟨0, [], rfl, by omega, hrow0, List.Pairwise.nil, fun p => by simp [afterP], Below.refl _ _, by omega⟩
  case round =>
    clear hrow0
    obtain ⟨i, lc, rfl, hi, hrow, hsc, hmem, hbw, hfu⟩ := hrel
    by_cases hlt : i < la.length
    · have hltI : (i : Int) < (la.length : Int) := by omega
      obtain ⟨g', rfl⟩ : ∃ g', gk = g' + 1 := ⟨gk - 1, by omega⟩
      obtain ⟨⟨a, y⟩, hq⟩ : ∃ q, la[i]? = some q := ⟨la[i], List.getElem?_eq_getElem hlt⟩
      have htk : la.take (i + 1) = la.take i ++ [(a, y)] := by rw [List.take_add_one, hq]; rfl
      have hqa : (a, y) ∈ la := List.mem_of_getElem? hq
      go_wp2
      go_loopg [5, 7] (lb.length + 1) (fun gf l k wx => ∃ (j : Nat) (lc : List Pr), k = .int .i64 (j : Int) ∧ j ≤ lb.length ∧ RowP w.heap.size wx l lc ∧ Sorted lc ∧ (∀ p, p ∈ lc ↔ afterP (la.take i) lb p ∨ (p.1 = a ∧ (y, p.2) ∈ lb.take j)) ∧ Below w.heap.size w wx ∧ lb.length < gf + j)
      case atStart => exact ⟨0, lc, rfl, by omega, hrow, hsc, fun p => by rw [hmem]; simp, hbw, by omega⟩
      case round =>
        clear hmem hsc hrow hbw lc
        obtain ⟨j, lc, rfl, hj, hrow, hsc, hmem, hbw, hfj⟩ := hrel
        by_cases hltj : j < lb.length
        · have hltJ : (j : Int) < (lb.length : Int) := by omega
          obtain ⟨g3, rfl⟩ : ∃ g3, gk = g3 + 1 := ⟨gk - 1, by omega⟩
          obtain ⟨⟨u, v⟩, hqj⟩ : ∃ q, lb[j]? = some q := ⟨lb[j], List.getElem?_eq_getElem hltj⟩
          obtain ⟨ga, rfl, k0, k1, k2, k3, k4, k5, k6, k7⟩ := view_at (ha.below hbw) hq
          obtain ⟨gb, rfl, m0, m1, m2, m3, m4, m5, m6, m7⟩ := view_at (hb.below hbw) hqj
          have htj : lb.take (j + 1) = lb.take j ++ [(u, v)] := by rw [List.take_add_one, hqj]; rfl
          have hqb : (u, v) ∈ lb := List.mem_of_getElem? hqj
          have heq := fun W => eqT_runW y u W
          dsimp only [encT] at heq
          clear hq hqj
          by_cases hyu : y = u
          · simp only [hyu, decide_true] at heq
            have hTc : In2 T lc := fun p hp => ((hmem p).1 hp).elim (fun ⟨z, h1, h2⟩ => ⟨(hTa _ (List.mem_of_mem_take h1)).1, (hTb _ h2).2⟩) (fun ⟨h1, h2⟩ => ⟨by rw [h1]; exact (hTa _ hqa).1, (hTb _ (List.mem_of_mem_take h2)).2⟩)
            have hput := fun n => put_calls (w := (wr.drewN n).drew) (show RowP w.heap.size (wr.drewN n).drew u5 lc from hrow) hbw.size hsc (by have := in2_len hTc hsc hT; omega) a v
            unfold PutOk at hput
            have hgo : ∀ n w1, (wr.drewN n).drew.grownBy w1 u5.ownBlock → Below w.heap.size w w1 := fun n w1 hg => below_own (show Below w.heap.size w (wr.drewN n).drew from ⟨hbw.os, hbw.tape, hbw.output, hbw.size, hbw.block⟩) (Nat.le_refl _) (show RowP w.heap.size (wr.drewN n).drew u5 lc from hrow) hg
            go_wp2
            go_quiet (fail)
            go_wp2
            go_region_with (go_at_call 32; refine (hput _).mono ?_; rintro e w1 ⟨v', l', rfl, h1, h2, h3, h4⟩)
            all_goals
              go_wp2
              go_roundg g3
              case measure => omega
              case rel =>
                refine ⟨j + 1, l', congrArg (Value.int .i64) (by omega), by omega, h3, h1, fun p => ?_, hgo _ w1 h4, by omega⟩
                rw [h2, hmem, htj, List.mem_append, List.mem_singleton]
                constructor
                · rintro (h | h | h)
                  · rw [h]; exact .inr ⟨rfl, .inr (by rw [hyu])⟩
                  · exact .inl h
                  · exact .inr ⟨h.1, .inl h.2⟩
                · rintro (h | ⟨h5, h6 | h6⟩)
                  · exact .inr (.inl h)
                  · exact .inr (.inr ⟨h5, h6⟩)
                  · exact .inl (Prod.ext h5 (Prod.mk.inj h6).2)
          · simp only [hyu, decide_false] at heq
            go_wp2
            go_quiet (fail)
            go_wp2
            go_roundg g3
            case measure => omega
            case rel =>
              refine ⟨j + 1, lc, congrArg (Value.int .i64) (by omega), by omega, hrow, hsc, fun p => ?_, ⟨hbw.os, hbw.tape, hbw.output, hbw.size, hbw.block⟩, by omega⟩
              rw [hmem, htj, List.mem_append, List.mem_singleton]
              exact ⟨fun h => h.elim .inl (fun h => .inr ⟨h.1, .inl h.2⟩), fun h => h.elim .inl (fun h => h.2.elim (fun h2 => .inr ⟨h.1, h2⟩) (fun h2 => absurd (Prod.mk.inj h2).1 hyu))⟩
        · have hltJ : ¬ (j : Int) < (lb.length : Int) := by omega
          go_wp2
          go_roundg g'
          case measure => omega
          case rel => exact ⟨i + 1, lc, congrArg (Value.int .i64) (by omega), by omega, hrow, hsc, fun p => by rw [hmem, htk, after_snoc, show lb.take j = lb from List.take_of_length_le (by omega)], hbw, by omega⟩
    · have hltI : ¬ (i : Int) < (la.length : Int) := by omega
      go_wp2
      go_ret
      exact RefPost.mk lc hsc (fun p => by rw [hmem, List.take_of_length_le (by omega)]) hrow hbw
end
end Go.Proofs.Ytaeiikielelicaa.Pt
