/- The reference's rows: plus, all. -/
import Derived.Test.YtaeiikielelicaaPtRef
import Derived.Deep.RegionHeld3
set_option linter.unusedVariables false
set_option linter.unusedSimpArgs false
set_option linter.unusedSectionVars false
set_option linter.deprecated false
namespace Go.Proofs.Ytaeiikielelicaa.Pt
open Go.RowKit Go.Proofs Go.Am
open Pm
set_option maxRecDepth 1000000
set_option linter.unusedVariables false
set_option linter.unusedSimpArgs false
noncomputable section
theorem RowP.low {b b' : Nat} {w : World} {v : Value} {l : List Pr} (h : RowP b w v l) (hb : b' ≤ b) : RowP b' w v l := h.base hb
theorem plus_closed {la lc : List Pr} (h1 : ∀ p ∈ la, p ∈ lc) (h2 : ∀ p ∈ lc, plusP (· ∈ la) p) (h3 : ∀ p, afterP lc la p → p ∈ lc) (p : Pr) : p ∈ lc ↔ plusP (· ∈ la) p := by
  refine ⟨h2 p, fun h => ?_⟩
  obtain ⟨x, y⟩ := p
  unfold plusP at h
  dsimp only at h
  induction h with
  | one h => exact h1 _ h
  | more hp h ih => exact h3 _ ⟨_, ih, h⟩
theorem same_of_len {l m : List Pr} (hl : l.Nodup) (hs : ∀ p ∈ l, p ∈ m) (hn : m.length ≤ l.length) : ∀ p ∈ m, p ∈ l := by
  induction l generalizing m with
  | nil => intro p hp; have := List.length_pos_of_mem hp; rw [List.length_nil] at hn; omega
  | cons a l ih =>
    intro p hp
    by_cases e : p = a
    · rw [e]; simp
    · have ha : a ∈ m := hs a (by simp)
      have h1 := ih (m := m.erase a) (List.nodup_cons.1 hl).2 (fun q hq => by
        have hqa : q ≠ a := fun e => (List.nodup_cons.1 hl).1 (by rw [← e]; exact hq)
        exact (List.mem_erase_of_ne hqa).2 (hs q (by simp [hq]))) (by rw [List.length_erase_of_mem ha]; simp at hn; omega) p ((List.mem_erase_of_ne e).2 hp)
      exact List.mem_cons_of_mem _ h1
set_option maxHeartbeats 2000000 in
theorem plus_ref (base : Nat) (va : Value) (la : List Pr) (T : List Tm) (w : World) (ha : RowP base w va la) (hbs : base ≤ w.heap.size) (hsa : Sorted la) (hTa : In2 T la) (hT : T.length ≤ 1000) :
    RefOk 35 #[va] base (plusP (· ∈ la)) w := by
  unfold RefOk
  have hT2 : ∀ p, plusP (· ∈ la) p → p.1 ∈ T ∧ p.2 ∈ T := fun p hp => tm_in (A := (· ∈ la)) hTa hp
  obtain ⟨ada, ca, rfl, -⟩ := ha.view
  go_enter Try.func35, Try.ntmps35
  go_wp2
  go_loopg [3] 1000001 (fun gf l wx => ∃ (lc : List Pr), RowP base wx l lc ∧ Sorted lc ∧ (∀ p ∈ la, p ∈ lc) ∧ (∀ p ∈ lc, plusP (· ∈ la) p) ∧ Below w.heap.size w wx ∧ 1000000 < gf + lc.length)
  case atStart => exact ⟨la, ha, hsa, fun p h => h, fun p h => Plus.one h, Below.refl _ _, by omega⟩
  case round =>
    obtain ⟨lc, hrow, hsc, hin, hpl, hbw, hfu⟩ := hrel
    have hTc : In2 T lc := fun p hp => hT2 p (hpl p hp)
    have hlc := in2_len hTc hsc hT
    obtain ⟨g', rfl⟩ : ∃ g', gk = g' + 1 := ⟨gk - 1, by omega⟩
    obtain ⟨adc, cc, rfl, -⟩ := hrow.view
    have haf := after_ref _ _ lc la T wr (hrow.low (Nat.zero_le _)) ((ha.below hbw).low (Nat.zero_le _)) hsc hTc hTa hsa hT
    unfold RefOk at haf
    have hbo : ∀ (w1 : World) rv l1, RowP wr.heap.size w1 rv l1 → Sorted l1 → (∀ p, p ∈ l1 ↔ afterP lc la p) → Below wr.heap.size wr w1 → RefOk 34 #[.slice adc lc.length cc, rv] w1.heap.size (fun p => p ∈ lc ∨ p ∈ l1) w1 := fun w1 rv l1 h1 h2 h3 h4 =>
      both_ref _ _ lc l1 T w1 ((hrow.below h4).low (Nat.zero_le _)) (h1.low (Nat.zero_le _)) hsc hTc (fun p hp => by obtain ⟨z, e1, e2⟩ := (h3 p).1 hp; exact ⟨(hTc _ e1).1, (hTa _ e2).2⟩) h2 hT
    unfold RefOk at hbo
    go_wp2_with (first
      | (go_at_call 33; refine haf.mono ?_; rintro e w1 ⟨rv, l1, rfl, h1, h2, h3, h4⟩)
      | (go_at_call 34; refine (hbo w1 rv l1 h3 h1 h2 h4).mono ?_; rintro e w2 ⟨rv2, l2, rfl, m1, m2, m3, m4⟩; obtain ⟨ad2, c2, rfl, -⟩ := m3.view))
    · have hle : (l2.length : Int) = (lc.length : Int) := beq_iff_eq.1 (by assumption)
      have hcl := same_of_len hsc.nodup (fun p hp => (m2 p).2 (.inl hp)) (by omega)
      go_ret
      exact RefPost.mk lc hsc (plus_closed hin hpl (fun p hp => hcl p ((m2 p).2 (.inr ((h2 p).2 hp))))) ((hrow.below h4).below m4) (hbw.trans ((h4.trans (m4.mono h4.size)).mono hbw.size))
    · have hne : ¬ (l2.length : Int) = (lc.length : Int) := beq_eq_false_iff_ne.1 (by assumption)
      have hge : lc.length ≤ l2.length := hsc.nodup.length_le_of_subset (fun p hp => (m2 p).2 (.inl hp))
      have hb2 := (h4.trans (m4.mono h4.size))
      go_roundg g'
      case measure => omega
      case rel =>
        refine ⟨l2, m3.low (Nat.le_trans hbs (Nat.le_trans hbw.size h4.size)), m1, fun p hp => (m2 p).2 (.inl (hin p hp)), fun p hp => ?_, hbw.trans (hb2.mono hbw.size), by omega⟩
        rcases (m2 p).1 hp with h | h
        · exact hpl p h
        · obtain ⟨z, e1, e2⟩ := (h2 p).1 h
          exact (Plus.more (y := z) (show Plus (· ∈ la) p.1 z from hpl (p.1, z) e1) e2 : Plus (· ∈ la) p.1 p.2)
theorem gview {w : World} {v : Value} {G : List T3} (h : GOk w v G) : ∃ ad cap, v = .slice ad G.length cap ∧ ∀ (j : Nat) (t : T3), G[j]? = some t → ∃ g, ad = some ⟨g, 0, none⟩ ∧ g < w.heap.size ∧ ∀ (i : Nat) u, (cTr t)[i]? = some u → w.cell? ⟨g, j * 12 + i, none⟩ = some u := by
  rcases h with ⟨rfl, rfl⟩ | ⟨g, cap, rfl, hg, hc⟩
  · exact ⟨none, 0, rfl, fun j t h => by simp at h⟩
  · exact ⟨_, cap, rfl, fun j t hj => ⟨g, rfl, hg, hc j t hj⟩⟩
theorem gview_at {w : World} {ad : Option Addr} {n c : Nat} {G : List T3} (h : GOk w (.slice ad n c) G) {j : Nat} {t : T3} (hj : G[j]? = some t) : ∃ g, ad = some ⟨g, 0, none⟩ ∧
    w.cell? ⟨g, j * 12, none⟩ = some (.int .i64 t.1.kind) ∧ w.cell? ⟨g, j * 12 + 1, none⟩ = some (.string t.1.s) ∧ w.cell? ⟨g, j * 12 + 2, none⟩ = some (.string t.1.lang) ∧ w.cell? ⟨g, j * 12 + 3, none⟩ = some (.string t.1.ty) ∧
    w.cell? ⟨g, j * 12 + 4, none⟩ = some (.int .i64 t.2.1.kind) ∧ w.cell? ⟨g, j * 12 + 5, none⟩ = some (.string t.2.1.s) ∧ w.cell? ⟨g, j * 12 + 6, none⟩ = some (.string t.2.1.lang) ∧ w.cell? ⟨g, j * 12 + 7, none⟩ = some (.string t.2.1.ty) ∧
    w.cell? ⟨g, j * 12 + 8, none⟩ = some (.int .i64 t.2.2.kind) ∧ w.cell? ⟨g, j * 12 + 9, none⟩ = some (.string t.2.2.s) ∧ w.cell? ⟨g, j * 12 + 10, none⟩ = some (.string t.2.2.lang) ∧ w.cell? ⟨g, j * 12 + 11, none⟩ = some (.string t.2.2.ty) := by
  obtain ⟨ad', cap', e, hv⟩ := gview h
  cases e
  obtain ⟨g, h1, h2, h3⟩ := hv j t hj
  exact ⟨g, h1, h3 0 _ rfl, h3 1 _ rfl, h3 2 _ rfl, h3 3 _ rfl, h3 4 _ rfl, h3 5 _ rfl, h3 6 _ rfl, h3 7 _ rfl, h3 8 _ rfl, h3 9 _ rfl, h3 10 _ rfl, h3 11 _ rfl⟩
set_option maxHeartbeats 4000000 in
theorem all_ref (v : Value) (G : List T3) (w : World) (hG : GOk w v G) (hn : G.length ≤ 500) : RefOk 36 #[v] w.heap.size (sameL G) w := by
  unfold RefOk
  have hTl : (termsL G).length ≤ 1000 := by rw [termsL_len]; omega
  obtain ⟨ad, cap, rfl, -⟩ := gview hG
  have hrow0 : RowP w.heap.size w (.slice none 0 0) [] := ⟨rfl, .inl ⟨rfl, rfl⟩⟩
  go_enter Try.func36, Try.ntmps36
  go_wp2
  go_loopg [3, 4] (G.length + 1) (fun gf l i wx => ∃ (j : Nat) (lc : List Pr), i = .int .i64 (j : Int) ∧ j ≤ G.length ∧ RowP w.heap.size wx l lc ∧ Sorted lc ∧ (∀ p, p ∈ lc ↔ sameL (G.take j) p) ∧ Below w.heap.size w wx ∧ G.length < gf + j)
  case atStart => exact ⟨0, [], rfl, by omega, hrow0, List.Pairwise.nil, fun p => by simp [sameL], Below.refl _ _, by omega⟩
  case round =>
    clear hrow0
    obtain ⟨j, lc, rfl, hj, hrow, hsc, hmem, hbw, hfu⟩ := hrel
    by_cases hlt : j < G.length
    · have hltI : (j : Int) < (G.length : Int) := by omega
      obtain ⟨g', rfl⟩ : ∃ g', gk = g' + 1 := ⟨gk - 1, by omega⟩
      obtain ⟨t, ht⟩ : ∃ t, G[j]? = some t := ⟨G[j], List.getElem?_eq_getElem hlt⟩
      have htk : G.take (j + 1) = G.take j ++ [t] := by rw [List.take_add_one, ht]; rfl
      have htm := mem_terms (List.mem_of_getElem? ht)
      obtain ⟨gb, rfl, k0, k1, k2, k3, k4, k5, k6, k7, k8, k9, k10, k11⟩ := gview_at (hG.below hbw) ht
      have hgbl : ∀ w1, wr.drew.grownBy w1 u3.ownBlock → GOk w1 (.slice (some ⟨gb, 0, none⟩) G.length cap) G := fun w1 hg => hG.below (below_own hbw.drew (Nat.le_refl _) (show RowP w.heap.size wr.drew u3 lc from hrow) hg)
      have hTc : In2 (termsL G) lc := fun p hp => inT_same G p (by obtain ⟨e, u, hu, h⟩ := (hmem p).1 hp; exact ⟨e, u, List.mem_of_mem_take hu, h⟩)
      have hput := put_calls (w := wr.drew) (show RowP w.heap.size wr.drew u3 lc from hrow) hbw.size hsc (by have := in2_len hTc hsc hTl; omega) t.1 t.1
      unfold PutOk at hput
      have hput2 : ∀ (w1 : World) (v1 : Value) (l1 : List Pr), RowP w.heap.size w1 v1 l1 → Sorted l1 → (∀ q, q ∈ l1 ↔ q = (t.1, t.1) ∨ q ∈ lc) → w.heap.size ≤ w1.heap.size → PutOk w.heap.size v1 l1 t.2.2 t.2.2 w1 := fun w1 v1 l1 h1 h2 h3 h4 =>
        put_calls h1 h4 h2 (by have := in2_len (T := termsL G) (fun p hp => by rcases (h3 p).1 hp with e | e; (rw [e]; exact ⟨htm.1, htm.1⟩); exact hTc p e) h2 hTl; omega) t.2.2 t.2.2
      unfold PutOk at hput2
      have hgo : ∀ w1, wr.drew.grownBy w1 u3.ownBlock → Below w.heap.size w w1 := fun w1 hg => below_own hbw.drew (Nat.le_refl _) (show RowP w.heap.size wr.drew u3 lc from hrow) hg
      have hcell : ∀ W, Below w.heap.size w W → (W.cell? ⟨gb, j * 12, none⟩ = some (.int .i64 t.1.kind) ∧ W.cell? ⟨gb, j * 12 + 1, none⟩ = some (.string t.1.s) ∧ W.cell? ⟨gb, j * 12 + 2, none⟩ = some (.string t.1.lang) ∧ W.cell? ⟨gb, j * 12 + 3, none⟩ = some (.string t.1.ty) ∧ W.cell? ⟨gb, j * 12 + 8, none⟩ = some (.int .i64 t.2.2.kind) ∧ W.cell? ⟨gb, j * 12 + 9, none⟩ = some (.string t.2.2.s) ∧ W.cell? ⟨gb, j * 12 + 10, none⟩ = some (.string t.2.2.lang) ∧ W.cell? ⟨gb, j * 12 + 11, none⟩ = some (.string t.2.2.ty)) := fun W hW => by
        obtain ⟨_, e, a0, a1, a2, a3, a4, a5, a6, a7, a8, a9, a10, a11⟩ := gview_at (hG.below hW) ht
        cases e
        exact ⟨a0, a1, a2, a3, a8, a9, a10, a11⟩
      have hS0 := hcell wr.drew hbw.drew
      clear hgbl ht k0 k1 k2 k3 k4 k5 k6 k7 k8 k9 k10 k11
      go_wp2
      go_region_held3 (fun W => W.cell? ⟨gb, j * 12, none⟩ = some (.int .i64 t.1.kind) ∧ W.cell? ⟨gb, j * 12 + 1, none⟩ = some (.string t.1.s) ∧ W.cell? ⟨gb, j * 12 + 2, none⟩ = some (.string t.1.lang) ∧ W.cell? ⟨gb, j * 12 + 3, none⟩ = some (.string t.1.ty) ∧ W.cell? ⟨gb, j * 12 + 8, none⟩ = some (.int .i64 t.2.2.kind) ∧ W.cell? ⟨gb, j * 12 + 9, none⟩ = some (.string t.2.2.s) ∧ W.cell? ⟨gb, j * 12 + 10, none⟩ = some (.string t.2.2.lang) ∧ W.cell? ⟨gb, j * 12 + 11, none⟩ = some (.string t.2.2.ty)) (first | exact hS0 | exact hS1 | exact hS2)
        (first
        | (go_at_call_of 32 (Value.agg #[.int .i64 t.1.kind, .string t.1.s, .string t.1.lang, .string t.1.ty, .int .i64 t.1.kind, .string t.1.s, .string t.1.lang, .string t.1.ty]); refine hput.mono ?_; rintro e w1 ⟨v1, l1, rfl, h1, h2, h3, h4⟩; have hb1 := hgo w1 h4; have hS1 := hcell w1 hb1)
        | (go_at_call 32; refine (hput2 w1 v1 l1 h3 h1 h2 hb1.size).mono ?_; rintro e w2 ⟨v2, l2, rfl, m1, m2, m3, m4⟩; have hb2 := below_own hb1 (Nat.le_refl _) h3 m4; have hS2 := hcell w2 hb2))
      all_goals
        clear hcell hS0 hS1 hS2 hgo
        go_wp2
        go_roundg g'
        case measure => omega
        case rel =>
          refine ⟨j + 1, l2, congrArg (Value.int .i64) (by omega), by omega, m3, m1, fun p => ?_, hb2, by omega⟩
          rw [m2, h2, hmem, htk, sameL_snoc]
          constructor
          · rintro (e | e | e)
            · rw [e]; exact .inr ⟨rfl, .inr rfl⟩
            · rw [e]; exact .inr ⟨rfl, .inl rfl⟩
            · exact .inl e
          · rintro (e | ⟨e, e1 | e1⟩)
            · exact .inr (.inr e)
            · exact .inr (.inl (Prod.ext e1 (by rw [← e, e1])))
            · exact .inl (Prod.ext e1 (by rw [← e, e1]))
    · have hltI : ¬ (j : Int) < (G.length : Int) := by omega
      go_wp2
      go_ret
      exact RefPost.mk lc hsc (fun p => by rw [hmem, List.take_of_length_le (by omega)]) hrow hbw
end
end Go.Proofs.Ytaeiikielelicaa.Pt
