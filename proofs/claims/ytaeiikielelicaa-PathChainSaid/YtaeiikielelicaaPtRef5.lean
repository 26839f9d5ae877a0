/- The reference's Ends: what is turned, stars; all of it. -/
import Derived.Test.YtaeiikielelicaaPtRef4
set_option linter.unusedVariables false
set_option linter.unusedSimpArgs false
set_option linter.unusedSectionVars false
set_option linter.deprecated false
namespace Go.Proofs.Ytaeiikielelicaa.Pt
open Go.RowKit Go.Proofs Go.Am
open Pm
set_option maxRecDepth 1000000
set_option linter.unusedVariables false
set_option linter.unusedSimpArgs false
noncomputable section
set_option maxHeartbeats 2000000 in
theorem er_inv (v : Value) (G : List T3) (s : ByteArray) (kids : List Wy) (ad : Option Addr) (cap : Nat) (w : World) (hn : G.length ≤ 500) (hk : KidsOk v G w kids ad) (hk1 : kids.length = 1) : EOk v G 2 s kids ad cap w := by
  unfold EOk RefOk
  rw [rel_eq]
  have hTl : (termsL G).length ≤ 1000 := by rw [termsL_len]; omega
  obtain ⟨W0, hW0⟩ := boxW w 2 s ad kids.length cap
  have hmade := hW0.made
  have hsz0 := hW0.size
  obtain ⟨e0, e1, e2⟩ := hW0.cells W0 (Below.refl _ _)
  obtain ⟨kf, hkf⟩ : ∃ k, kids[0]? = some k := ⟨kids[0], List.getElem?_eq_getElem (by omega)⟩
  have hkids : kids.map (rel G) = [rel G kf] := by
    match kids, hk1, hkf with
    | [x], _, h => cases h; rfl
  obtain ⟨g, o0, s0, a0, n0, m0, rfl, hfirst⟩ := hk 0 kf hkf
  obtain ⟨⟨c0, c1, c2⟩, hcall⟩ := hfirst W0 hW0.low
  simp only [Nat.zero_mul, Nat.zero_add] at c0 c1 c2
  unfold RefOk at hcall
  have bk : ((kids.length : Int) != 1) = false := by rw [hk1]; rfl
  have hkI : (0 : Int) < (kids.length : Int) := by omega
  clear hfirst hk1
  have hrelS : ∀ p, relOf G 2 s (kids.map (rel G)) p ↔ rel G kf (p.2, p.1) := fun p => by rw [hkids, relOf_one G 2 s _ (by decide) (by decide) (by decide)]; simp [aloneP]
  clear hkids
  go_enter Try.func15, Try.ntmps15
  go_wp2_with (go_at_call 15; refine hcall.mono ?_; rintro e w1 ⟨rv, l1, rfl, h1, h2, h3, h4⟩)
  rw [hsz0] at h4
  have h3' := h3.low (b' := 0) (Nat.zero_le _)
  obtain ⟨ad1, cap1, rfl, -⟩ := h3.view
  have hl1 := in2_len (T := termsL G) (fun p hp => inT_rel G kf p ((h2 p).1 hp)) h1 hTl
  have hT1 : In2 (termsL G) l1 := fun p hp => inT_rel G kf p ((h2 p).1 hp)
  have hsz1 := h4.size
  have hrow0 : RowP w1.heap.size w1 (.slice none 0 0) [] := ⟨rfl, .inl ⟨rfl, rfl⟩⟩
  clear c0 c1 c2 hcall hmade e0 e1 e2
  go_wp2
  go_loopg [5, 10] (l1.length + 1) (fun gf l i wx => ∃ (j : Nat) (lc : List Pr), i = .int .i64 (j : Int) ∧ j ≤ l1.length ∧ RowP w1.heap.size wx l lc ∧ Sorted lc ∧ (∀ p, p ∈ lc ↔ (p.2, p.1) ∈ l1.take j) ∧ Below w1.heap.size w1 wx ∧ l1.length < gf + j)
  case atStart => exact ⟨0, [], rfl, by omega, hrow0, List.Pairwise.nil, fun p => by simp, Below.refl _ _, by omega⟩
  case round =>
    clear hrow0
    obtain ⟨j, lc, rfl, hj, hrow, hsc, hmem, hbw, hfu⟩ := hrel
    by_cases hlt : j < l1.length
    · have hltI : (j : Int) < (l1.length : Int) := by omega
      obtain ⟨g', rfl⟩ : ∃ g', gk = g' + 1 := ⟨gk - 1, by omega⟩
      obtain ⟨⟨x, y⟩, hq⟩ : ∃ q, l1[j]? = some q := ⟨l1[j], List.getElem?_eq_getElem hlt⟩
      have htk : l1.take (j + 1) = l1.take j ++ [(x, y)] := by rw [List.take_add_one, hq]; rfl
      obtain ⟨gb, rfl, k0, k1, k2, k3, k4, k5, k6, k7⟩ := view_at (h3'.below hbw) hq
      have hcell : ∀ W, Below w1.heap.size w1 W → (W.cell? ⟨gb, j * 8, none⟩ = some (.int .i64 x.kind) ∧ W.cell? ⟨gb, j * 8 + 1, none⟩ = some (.string x.s) ∧ W.cell? ⟨gb, j * 8 + 2, none⟩ = some (.string x.lang) ∧ W.cell? ⟨gb, j * 8 + 3, none⟩ = some (.string x.ty) ∧ W.cell? ⟨gb, j * 8 + 4, none⟩ = some (.int .i64 y.kind) ∧ W.cell? ⟨gb, j * 8 + 5, none⟩ = some (.string y.s) ∧ W.cell? ⟨gb, j * 8 + 6, none⟩ = some (.string y.lang) ∧ W.cell? ⟨gb, j * 8 + 7, none⟩ = some (.string y.ty)) := fun W hW => by
        obtain ⟨_, e, a0, a1, a2, a3, a4, a5, a6, a7⟩ := view_at (h3'.below hW) hq
        cases e
        exact ⟨a0, a1, a2, a3, a4, a5, a6, a7⟩
      have hTc : In2 (termsL G) lc := fun p hp => (hT1 _ (List.mem_of_mem_take ((hmem p).1 hp))).symm
      have hput := put_calls (w := wr.drew) (show RowP w1.heap.size wr.drew u5 lc from hrow) hbw.size hsc (by have := in2_len hTc hsc hTl; omega) y x
      unfold PutOk at hput
      have hgo : ∀ w2, wr.drew.grownBy w2 u5.ownBlock → Below w1.heap.size w1 w2 := fun w2 hg => below_own hbw.drew (Nat.le_refl _) (show RowP w1.heap.size wr.drew u5 lc from hrow) hg
      have hS0 := hcell _ hbw.drew
      clear hq k0 k1 k2 k3 k4 k5 k6 k7
      go_wp2
      go_region_held3 (fun W => W.cell? ⟨gb, j * 8, none⟩ = some (.int .i64 x.kind) ∧ W.cell? ⟨gb, j * 8 + 1, none⟩ = some (.string x.s) ∧ W.cell? ⟨gb, j * 8 + 2, none⟩ = some (.string x.lang) ∧ W.cell? ⟨gb, j * 8 + 3, none⟩ = some (.string x.ty) ∧ W.cell? ⟨gb, j * 8 + 4, none⟩ = some (.int .i64 y.kind) ∧ W.cell? ⟨gb, j * 8 + 5, none⟩ = some (.string y.s) ∧ W.cell? ⟨gb, j * 8 + 6, none⟩ = some (.string y.lang) ∧ W.cell? ⟨gb, j * 8 + 7, none⟩ = some (.string y.ty)) (first | exact hS0 | exact hS1)
        (first
        | (go_at_call 32; refine hput.mono ?_; rintro e w2 ⟨v2, l2, rfl, m1, m2, m3, m4⟩; have hb2 := hgo w2 m4; have hS1 := hcell w2 hb2))
      all_goals
        clear hcell hS0 hS1 hgo
        go_wp2
        go_roundg g'
        case measure => omega
        case rel =>
          refine ⟨j + 1, l2, congrArg (Value.int .i64) (by omega), by omega, m3, m1, fun p => ?_, hb2, by omega⟩
          rw [m2, hmem, htk, List.mem_append, List.mem_singleton]
          exact ⟨fun h => h.elim (fun e => .inr (by rw [e])) .inl, fun h => h.elim .inr (fun e => .inl (Prod.ext (Prod.mk.inj e).2 (Prod.mk.inj e).1))⟩
    · have hltI : ¬ (j : Int) < (l1.length : Int) := by omega
      go_wp2
      go_ret
      exact RefPost.mk lc hsc (fun p => by rw [hmem, hrelS, List.take_of_length_le (by omega), h2]) (hrow.low (by omega)) (hW0.trans (h4.trans (hbw.mono (by omega))))
set_option maxHeartbeats 2000000 in
theorem er_plus (v : Value) (G : List T3) (s : ByteArray) (kids : List Wy) (ad : Option Addr) (cap : Nat) (w : World) (hn : G.length ≤ 500) (hk : KidsOk v G w kids ad) (hk1 : kids.length = 1) : EOk v G 6 s kids ad cap w := by
  unfold EOk RefOk
  rw [rel_eq]
  have hTl : (termsL G).length ≤ 1000 := by rw [termsL_len]; omega
  obtain ⟨W0, hW0⟩ := boxW w 6 s ad kids.length cap
  have hmade := hW0.made
  have hsz0 := hW0.size
  obtain ⟨e0, e1, e2⟩ := hW0.cells W0 (Below.refl _ _)
  obtain ⟨kf, hkf⟩ : ∃ k, kids[0]? = some k := ⟨kids[0], List.getElem?_eq_getElem (by omega)⟩
  have hkids : kids.map (rel G) = [rel G kf] := by
    match kids, hk1, hkf with
    | [x], _, h => cases h; rfl
  obtain ⟨g, o0, s0, a0, n0, m0, rfl, hfirst⟩ := hk 0 kf hkf
  obtain ⟨⟨c0, c1, c2⟩, hcall⟩ := hfirst W0 hW0.low
  simp only [Nat.zero_mul, Nat.zero_add] at c0 c1 c2
  unfold RefOk at hcall
  have bk : ((kids.length : Int) != 1) = false := by rw [hk1]; rfl
  have hkI : (0 : Int) < (kids.length : Int) := by omega
  clear hfirst hk1
  have hrelS : ∀ p, relOf G 6 s (kids.map (rel G)) p ↔ plusP (rel G kf) p := fun p => by rw [hkids, relOf_one G 6 s _ (by decide) (by decide) (by decide)]; simp [aloneP]
  clear hkids
  have hpl : ∀ w1 rv l1, Sorted l1 → (∀ p, p ∈ l1 ↔ rel G kf p) → RowP W0.heap.size w1 rv l1 → Below W0.heap.size W0 w1 → RefOk 35 #[rv] W0.heap.size (plusP (· ∈ l1)) w1 := fun w1 rv l1 h1 h2 h3 h4 =>
    plus_ref W0.heap.size rv l1 (termsL G) w1 h3 h4.size h1 (fun p hp => inT_rel G kf p ((h2 p).1 hp)) hTl
  unfold RefOk at hpl
  go_enter Try.func15, Try.ntmps15
  go_wp2_with (first
    | (go_at_call 15; refine hcall.mono ?_; rintro e w1 ⟨rv, l1, rfl, h1, h2, h3, h4⟩)
    | (go_at_call 35; refine (hpl w1 rv l1 h1 h2 h3 h4).mono ?_; rintro e w2 ⟨rv2, l2, rfl, m1, m2, m3, m4⟩))
  go_ret
  exact RefPost.mk l2 m1 (fun p => by rw [m2, hrelS]; exact plus_congr h2 p) (m3.low (by omega)) (hW0.low.trans ((h4.trans (m4.mono h4.size)).mono (by omega)))
set_option maxHeartbeats 2000000 in
theorem er_star (v : Value) (G : List T3) (s : ByteArray) (kids : List Wy) (ad : Option Addr) (cap : Nat) (w : World) (hG : GOk w v G) (hn : G.length ≤ 500) (hk : KidsOk v G w kids ad) (hk1 : kids.length = 1) : EOk v G 5 s kids ad cap w := by
  unfold EOk RefOk
  rw [rel_eq]
  have hTl : (termsL G).length ≤ 1000 := by rw [termsL_len]; omega
  obtain ⟨W0, hW0⟩ := boxW w 5 s ad kids.length cap
  have hmade := hW0.made
  have hsz0 := hW0.size
  obtain ⟨e0, e1, e2⟩ := hW0.cells W0 (Below.refl _ _)
  obtain ⟨kf, hkf⟩ : ∃ k, kids[0]? = some k := ⟨kids[0], List.getElem?_eq_getElem (by omega)⟩
  have hkids : kids.map (rel G) = [rel G kf] := by
    match kids, hk1, hkf with
    | [x], _, h => cases h; rfl
  obtain ⟨g, o0, s0, a0, n0, m0, rfl, hfirst⟩ := hk 0 kf hkf
  obtain ⟨⟨c0, c1, c2⟩, hcall⟩ := hfirst W0 hW0.low
  simp only [Nat.zero_mul, Nat.zero_add] at c0 c1 c2
  unfold RefOk at hcall
  have bk : ((kids.length : Int) != 1) = false := by rw [hk1]; rfl
  have hkI : (0 : Int) < (kids.length : Int) := by omega
  clear hfirst hk1
  have hrelS : ∀ p, relOf G 5 s (kids.map (rel G)) p ↔ plusP (rel G kf) p ∨ sameL G p := fun p => by rw [hkids, relOf_one G 5 s _ (by decide) (by decide) (by decide)]; simp [aloneP]
  clear hkids
  have hpl : ∀ w1 rv l1, Sorted l1 → (∀ p, p ∈ l1 ↔ rel G kf p) → RowP W0.heap.size w1 rv l1 → Below W0.heap.size W0 w1 → RefOk 35 #[rv] W0.heap.size (plusP (· ∈ l1)) w1 := fun w1 rv l1 h1 h2 h3 h4 =>
    plus_ref W0.heap.size rv l1 (termsL G) w1 h3 h4.size h1 (fun p hp => inT_rel G kf p ((h2 p).1 hp)) hTl
  have hal : ∀ w2, Below W0.heap.size W0 w2 → RefOk 36 #[v] w2.heap.size (sameL G) w2 := fun w2 h => all_ref v G w2 ((hG.below hW0.low).below h) hn
  have hbo : ∀ w3 ra la rb lb, RowP W0.heap.size w3 ra la → Sorted la → (∀ p, p ∈ la ↔ plusP (rel G kf) p) → RowP 0 w3 rb lb → Sorted lb → (∀ p, p ∈ lb ↔ sameL G p) → RefOk 34 #[ra, rb] w3.heap.size (fun p => p ∈ la ∨ p ∈ lb) w3 := fun w3 ra la rb lb h1 h2 h3 h4 h5 h6 =>
    both_ref ra rb la lb (termsL G) w3 (h1.low (Nat.zero_le _)) h4 h2 (fun p hp => tm_in (inT_rel G kf) ((h3 p).1 hp)) (fun p hp => inT_same G p ((h6 p).1 hp)) h5 hTl
  unfold RefOk at hpl hal hbo
  go_enter Try.func15, Try.ntmps15
  go_wp2_with (first
    | (go_at_call 15; refine hcall.mono ?_; rintro e w1 ⟨rv, l1, rfl, h1, h2, h3, h4⟩)
    | (go_at_call 35; refine (hpl w1 rv l1 h1 h2 h3 h4).mono ?_; rintro e w2 ⟨rv2, l2, rfl, m1, m2, m3, m4⟩; have hb2 := h4.trans (m4.mono h4.size))
    | (go_at_call 36; refine (hal w2 hb2).mono ?_; rintro e w3 ⟨rv3, l3, rfl, n1, n2, n3, n4⟩; have hb3 := hb2.trans (n4.mono hb2.size))
    | (go_at_call 34; refine (hbo w3 rv2 l2 rv3 l3 (m3.below n4) m1 (fun p => by rw [m2]; exact plus_congr h2 p) (n3.low (Nat.zero_le _)) n1 n2).mono ?_; rintro e w4 ⟨rv4, l4, rfl, q1, q2, q3, q4⟩))
  go_ret
  have hb4 := hb3.trans (q4.mono hb3.size)
  exact RefPost.mk l4 q1 (fun p => by rw [q2, hrelS, m2, n2]; exact or_congr (plus_congr h2 p) Iff.rfl) (q3.low (by have := hb3.size; omega)) (hW0.low.trans (hb4.mono (by omega)))
set_option maxHeartbeats 2000000 in
theorem er_opt (v : Value) (G : List T3) (s : ByteArray) (kids : List Wy) (ad : Option Addr) (cap : Nat) (w : World) (hG : GOk w v G) (hn : G.length ≤ 500) (hk : KidsOk v G w kids ad) (hk1 : kids.length = 1) : EOk v G 7 s kids ad cap w := by
  unfold EOk RefOk
  rw [rel_eq]
  have hTl : (termsL G).length ≤ 1000 := by rw [termsL_len]; omega
  obtain ⟨W0, hW0⟩ := boxW w 7 s ad kids.length cap
  have hmade := hW0.made
  have hsz0 := hW0.size
  obtain ⟨e0, e1, e2⟩ := hW0.cells W0 (Below.refl _ _)
  obtain ⟨kf, hkf⟩ : ∃ k, kids[0]? = some k := ⟨kids[0], List.getElem?_eq_getElem (by omega)⟩
  have hkids : kids.map (rel G) = [rel G kf] := by
    match kids, hk1, hkf with
    | [x], _, h => cases h; rfl
  obtain ⟨g, o0, s0, a0, n0, m0, rfl, hfirst⟩ := hk 0 kf hkf
  obtain ⟨⟨c0, c1, c2⟩, hcall⟩ := hfirst W0 hW0.low
  simp only [Nat.zero_mul, Nat.zero_add] at c0 c1 c2
  unfold RefOk at hcall
  have bk : ((kids.length : Int) != 1) = false := by rw [hk1]; rfl
  have hkI : (0 : Int) < (kids.length : Int) := by omega
  clear hfirst hk1
  have hrelS : ∀ p, relOf G 7 s (kids.map (rel G)) p ↔ rel G kf p ∨ sameL G p := fun p => by rw [hkids, relOf_one G 7 s _ (by decide) (by decide) (by decide)]; simp [aloneP]
  clear hkids
  have hal : ∀ w2, Below W0.heap.size W0 w2 → RefOk 36 #[v] w2.heap.size (sameL G) w2 := fun w2 h => all_ref v G w2 ((hG.below hW0.low).below h) hn
  have hbo : ∀ w3 ra la rb lb, RowP W0.heap.size w3 ra la → Sorted la → (∀ p, p ∈ la ↔ rel G kf p) → RowP 0 w3 rb lb → Sorted lb → (∀ p, p ∈ lb ↔ sameL G p) → RefOk 34 #[ra, rb] w3.heap.size (fun p => p ∈ la ∨ p ∈ lb) w3 := fun w3 ra la rb lb h1 h2 h3 h4 h5 h6 =>
    both_ref ra rb la lb (termsL G) w3 (h1.low (Nat.zero_le _)) h4 h2 (fun p hp => inT_rel G kf p ((h3 p).1 hp)) (fun p hp => inT_same G p ((h6 p).1 hp)) h5 hTl
  unfold RefOk at hal hbo
  go_enter Try.func15, Try.ntmps15
  go_wp2_with (first
    | (go_at_call 15; refine hcall.mono ?_; rintro e w1 ⟨rv, l1, rfl, h1, h2, h3, h4⟩)
    | (go_at_call 36; refine (hal w1 h4).mono ?_; rintro e w3 ⟨rv3, l3, rfl, n1, n2, n3, n4⟩; have hb3 := h4.trans (n4.mono h4.size))
    | (go_at_call 34; refine (hbo w3 rv l1 rv3 l3 (h3.below n4) h1 h2 (n3.low (Nat.zero_le _)) n1 n2).mono ?_; rintro e w4 ⟨rv4, l4, rfl, q1, q2, q3, q4⟩))
  go_ret
  have hb4 := hb3.trans (q4.mono hb3.size)
  exact RefPost.mk l4 q1 (fun p => by rw [q2, hrelS, h2, n2]) (q3.low (by have := hb3.size; omega)) (hW0.low.trans (hb4.mono (by omega)))
/-- the reference's Ends. -/
theorem ends_ref {w0 : World} {t : Wy} {pv : Value} (h : RepW w0 t pv) (v : Value) (G : List T3) (hn : G.length ≤ 500) (hI : Iris G) : ∀ w, Below w0.heap.size w0 w → GOk w v G → RefOk 15 #[v, pv] w.heap.size (rel G t) w := by
  induction h with
  | leaf op s =>
    intro w hb hG
    have hk : KidsOk v G w [] none := fun j k hj => by simp at hj
    by_cases h1 : op = 1
    · subst h1; exact er_iri v G s [] none 0 w hG hn hI
    by_cases h3 : op = 3
    · subst h3; exact er_seq0 v G s none 0 w
    by_cases h4 : op = 4
    · subst h4; exact er_alt v G s [] none 0 w hn hk (by simp)
    exact er_few v G op s [] none 0 w h1 h3 h4 (by simp)
  | node op s kids g cap hk0 hkl hg c0 c1 c2 hc hk ih =>
    intro w hb hG
    have hKO : KidsOk v G w kids (some ⟨g, 0, none⟩) := fun j k hj => by
      have hjl := (List.getElem?_eq_some_iff.1 hj).1
      obtain ⟨o, s', a, n, m, e⟩ := (hk j k hj).shape
      simp only [Value.agg.injEq, Array.mk.injEq, List.cons.injEq, and_true] at e
      refine ⟨g, o, s', a, n, m, rfl, fun W hW => ?_⟩
      have hbW := hb.trans (hW.mono hb.size)
      obtain ⟨q0, q1, q2⟩ := hc j hjl
      refine ⟨⟨?_, ?_, ?_⟩, ?_⟩
      · rw [← e.1]; exact (hbW.cell (p := ⟨g, j * 3, none⟩) hg).trans q0
      · rw [← e.2.1]; exact (hbW.cell (p := ⟨g, j * 3 + 1, none⟩) hg).trans q1
      · rw [← e.2.2]; exact (hbW.cell (p := ⟨g, j * 3 + 2, none⟩) hg).trans q2
      · have := ih j k hj W hbW (hG.below hW)
        rwa [e.1, e.2.1, e.2.2] at this
    by_cases h1 : op = 1
    · subst h1; exact er_iri v G s kids _ cap w hG hn hI
    by_cases h3 : op = 3
    · subst h3; exact er_seq v G s kids _ cap w hn hKO hk0 hkl
    by_cases h4 : op = 4
    · subst h4; exact er_alt v G s kids _ cap w hn hKO hkl
    by_cases hl : kids.length = 1
    · by_cases h2 : op = 2
      · subst h2; exact er_inv v G s kids _ cap w hn hKO hl
      by_cases h5 : op = 5
      · subst h5; exact er_star v G s kids _ cap w hG hn hKO hl
      by_cases h6 : op = 6
      · subst h6; exact er_plus v G s kids _ cap w hn hKO hl
      by_cases h7 : op = 7
      · subst h7; exact er_opt v G s kids _ cap w hG hn hKO hl
      exact er_none v G op s kids _ cap w h1 h3 h4 h2 h5 h6 h7 hl
    exact er_few v G op s kids _ cap w h1 h3 h4 hl
end
end Go.Proofs.Ytaeiikielelicaa.Pt
