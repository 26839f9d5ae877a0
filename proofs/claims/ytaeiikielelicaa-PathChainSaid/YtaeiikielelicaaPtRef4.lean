/- The reference's Ends: sequences, alternatives, what is turned, stars. -/
import Derived.Test.YtaeiikielelicaaPtRef3
set_option linter.unusedVariables false
set_option linter.unusedSimpArgs false
set_option linter.unusedSectionVars false
set_option linter.deprecated false
namespace Go.Proofs.Ytaeiikielelicaa.Pt
open Go.RowKit Go.Proofs Go.Am
open Pm
set_option maxRecDepth 1000000
set_option linter.unusedVariables false
set_option linter.unusedSimpArgs false
noncomputable section
theorem joinL_snoc {f : (Pr → Prop) → (Pr → Prop) → Pr → Prop} {L : List (Pr → Prop)} (A : Pr → Prop) (h : L ≠ []) : joinL f (L ++ [A]) = f (joinL f L) A := by
  cases L with
  | nil => exact absurd rfl h
  | cons B L => simp [joinL, List.foldl_append]
theorem joinOr_snoc {L : List (Pr → Prop)} (A : Pr → Prop) (p : Pr) : joinL orP (L ++ [A]) p ↔ joinL orP L p ∨ A p := by
  cases L with
  | nil => simp [joinL]
  | cons B L => simp [joinL, List.foldl_append, orP]
theorem behind_congr {A B : Pr → Prop} {la lb : List Pr} (ha : ∀ p, p ∈ la ↔ A p) (hb : ∀ p, p ∈ lb ↔ B p) (p : Pr) : afterP la lb p ↔ behindP A B p := by
  unfold afterP behindP
  exact exists_congr fun y => and_congr (ha _) (hb _)
theorem plus_congr {A B : Pr → Prop} (h : ∀ p, A p ↔ B p) (p : Pr) : plusP A p ↔ plusP B p := by
  have e : A = B := funext fun p => propext (h p)
  rw [e]
theorem one_kid {kids : List Wy} (h : kids.length = 1) : ∃ k, kids = [k] := by
  match kids, h with
  | [k], _ => exact ⟨k, rfl⟩
theorem relOf_one (G : List T3) (op : Int) (s : ByteArray) (A : Pr → Prop) (h1 : op ≠ 1) (h3 : op ≠ 3) (h4 : op ≠ 4) (p : Pr) : relOf G op s [A] p ↔ aloneP op G A p := by
  unfold relOf
  rw [if_neg h1, if_neg h3, if_neg h4]
set_option maxHeartbeats 2000000 in
theorem er_seq0 (v : Value) (G : List T3) (s : ByteArray) (ad : Option Addr) (cap : Nat) (w : World) : EOk v G 3 s [] ad cap w := by
  unfold EOk RefOk
  rw [rel_eq]
  have hb0 : ∀ o, Below w.heap.size w (w.alloc o) := fun o => (Below.refl _ w).alloc (Nat.le_refl _) _
  go_enter Try.func15, Try.ntmps15
  go_wp2
  go_ret
  exact RefPost.mk [] List.Pairwise.nil (fun p => by simp [relOf, joinL]) ⟨rfl, .inl ⟨rfl, rfl⟩⟩ (hb0 _)
set_option maxHeartbeats 2000000 in
theorem er_few (v : Value) (G : List T3) (op : Int) (s : ByteArray) (kids : List Wy) (ad : Option Addr) (cap : Nat) (w : World) (h1 : op ≠ 1) (h3 : op ≠ 3) (h4 : op ≠ 4) (hk : kids.length ≠ 1) : EOk v G op s kids ad cap w := by
  unfold EOk RefOk
  rw [rel_eq]
  have hrelS : ∀ p, relOf G op s (kids.map (rel G)) p ↔ False := fun p => by
    unfold relOf
    rw [if_neg h1, if_neg h3, if_neg h4]
    match kids, hk with
    | [], _ => simp
    | [x], h => exact absurd rfl h
    | x :: y :: l, _ => simp
  have b1 : (op == 1) = false := beq_eq_false_iff_ne.2 h1
  have b3 : (op == 3) = false := beq_eq_false_iff_ne.2 h3
  have b4 : (op == 4) = false := beq_eq_false_iff_ne.2 h4
  have bk : ((kids.length : Int) != 1) = true := bne_iff_ne.2 (by omega)
  have hb0 : ∀ o, Below w.heap.size w (w.alloc o) := fun o => (Below.refl _ w).alloc (Nat.le_refl _) _
  clear h1 h3 h4 hk
  go_enter Try.func15, Try.ntmps15
  go_wp2
  go_ret
  exact RefPost.mk [] List.Pairwise.nil (fun p => by rw [hrelS]; simp) ⟨rfl, .inl ⟨rfl, rfl⟩⟩ (hb0 _)
set_option maxHeartbeats 2000000 in
theorem er_none (v : Value) (G : List T3) (op : Int) (s : ByteArray) (kids : List Wy) (ad : Option Addr) (cap : Nat) (w : World) (h1 : op ≠ 1) (h3 : op ≠ 3) (h4 : op ≠ 4) (h2 : op ≠ 2) (h5 : op ≠ 5) (h6 : op ≠ 6) (h7 : op ≠ 7) (hk : kids.length = 1) : EOk v G op s kids ad cap w := by
  unfold EOk RefOk
  rw [rel_eq]
  have hrelS : ∀ p, relOf G op s (kids.map (rel G)) p ↔ False := fun p => by
    obtain ⟨k, rfl⟩ := one_kid hk
    rw [List.map_cons, List.map_nil, relOf_one G op s _ h1 h3 h4]
    unfold aloneP
    rw [if_neg h2, if_neg h5, if_neg h6, if_neg h7]
  have b1 : (op == 1) = false := beq_eq_false_iff_ne.2 h1
  have b3 : (op == 3) = false := beq_eq_false_iff_ne.2 h3
  have b4 : (op == 4) = false := beq_eq_false_iff_ne.2 h4
  have b2 : (op == 2) = false := beq_eq_false_iff_ne.2 h2
  have b5 : (op == 5) = false := beq_eq_false_iff_ne.2 h5
  have b6 : (op == 6) = false := beq_eq_false_iff_ne.2 h6
  have b7 : (op == 7) = false := beq_eq_false_iff_ne.2 h7
  have bk : ((kids.length : Int) != 1) = false := by rw [hk]; rfl
  have hb0 : ∀ o, Below w.heap.size w (w.alloc o) := fun o => (Below.refl _ w).alloc (Nat.le_refl _) _
  clear h1 h3 h4 h2 h5 h6 h7 hk
  go_enter Try.func15, Try.ntmps15
  go_wp2
  go_ret
  exact RefPost.mk [] List.Pairwise.nil (fun p => by rw [hrelS]; simp) ⟨rfl, .inl ⟨rfl, rfl⟩⟩ (hb0 _)
set_option maxHeartbeats 2000000 in
theorem er_seq (v : Value) (G : List T3) (s : ByteArray) (kids : List Wy) (ad : Option Addr) (cap : Nat) (w : World) (hn : G.length ≤ 500) (hk : KidsOk v G w kids ad) (hk0 : 0 < kids.length) (hkl : kids.length ≤ 1000) : EOk v G 3 s kids ad cap w := by
  unfold EOk RefOk
  rw [rel_eq]
  have hrelS : ∀ p, relOf G 3 s (kids.map (rel G)) p ↔ joinL behindP (kids.map (rel G)) p := fun p => by simp [relOf]
  have hTl : (termsL G).length ≤ 1000 := by rw [termsL_len]; omega
  obtain ⟨W0, hW0⟩ := boxW w 3 s ad kids.length cap
  have hmade := hW0.made
  have hsz0 := hW0.size
  obtain ⟨e0, e1, e2⟩ := hW0.cells W0 (Below.refl _ _)
  have hkI : (0 : Int) < (kids.length : Int) := by omega
  obtain ⟨kf, hkf⟩ : ∃ k, kids[0]? = some k := ⟨kids[0], List.getElem?_eq_getElem hk0⟩
  obtain ⟨g, o0, s0, a0, n0, m0, rfl, hfirst⟩ := hk 0 kf hkf
  obtain ⟨⟨c0, c1, c2⟩, hcall⟩ := hfirst W0 hW0.low
  simp only [Nat.zero_mul, Nat.zero_add] at c0 c1 c2
  unfold RefOk at hcall
  have htk1 : (kids.take 1).map (rel G) = [rel G kf] := by
    match kids, hkf with
    | x :: l, h => cases h; rfl
  clear hfirst
  go_enter Try.func15, Try.ntmps15
  go_wp2_with (go_at_call 15; refine hcall.mono ?_; rintro e w1 ⟨rv, l1, rfl, h1, h2, h3, h4⟩)
  rw [hsz0] at h3 h4
  clear c0 c1 c2 hcall hmade e0 e1 e2
  go_loopg [5, 7] (kids.length + 1) (fun gf l i wx => ∃ (j : Nat) (lc : List Pr), i = .int .i64 (j : Int) ∧ 1 ≤ j ∧ j ≤ kids.length ∧ RowP (w.heap.size + 1) wx l lc ∧ Sorted lc ∧ In2 (termsL G) lc ∧ (∀ p, p ∈ lc ↔ joinL behindP ((kids.take j).map (rel G)) p) ∧ Below (w.heap.size + 1) W0 wx ∧ kids.length < gf + j)
  case atStart => exact ⟨1, l1, rfl, by omega, by omega, h3, h1, fun p hp => inT_rel G kf p ((h2 p).1 hp), fun p => by rw [h2, htk1]; simp [joinL], h4, by omega⟩
  case round =>
    clear h1 h2 h3 h4
    obtain ⟨j, lc, rfl, hj1, hj, hrow, hsc, hTc, hmem, hbw, hfu⟩ := hrel
    obtain ⟨e0, e1, e2⟩ := hW0.cells wr hbw
    by_cases hlt : j < kids.length
    · have hltI : (j : Int) < (kids.length : Int) := by omega
      obtain ⟨g', rfl⟩ : ∃ g', gk = g' + 1 := ⟨gk - 1, by omega⟩
      obtain ⟨k, hkj⟩ : ∃ k, kids[j]? = some k := ⟨kids[j], List.getElem?_eq_getElem hlt⟩
      obtain ⟨g2, oj, sj, aj, nj, mj, e, hfirst⟩ := hk j k hkj
      cases e
      obtain ⟨⟨c0, c1, c2⟩, hcall⟩ := hfirst wr (hW0.trans hbw)
      have htk : (kids.take (j + 1)).map (rel G) = (kids.take j).map (rel G) ++ [rel G k] := by rw [List.take_add_one, hkj]; simp
      have hne : (kids.take j).map (rel G) ≠ [] := fun e => by have := congrArg List.length e; rw [List.length_map, List.length_take, List.length_nil] at this; omega
      have haf : ∀ w1 rv l1, Sorted l1 → (∀ p, p ∈ l1 ↔ rel G k p) → RowP wr.heap.size w1 rv l1 → Below wr.heap.size wr w1 → RefOk 33 #[u5, rv] w1.heap.size (afterP lc l1) w1 := fun w1 rv l1 h1 h2 h3 h4 =>
        after_ref _ _ lc l1 (termsL G) w1 ((hrow.below h4).low (Nat.zero_le _)) (h3.low (Nat.zero_le _)) hsc hTc (fun p hp => inT_rel G k p ((h2 p).1 hp)) h1 hTl
      unfold RefOk at hcall haf
      clear hfirst hkj
      go_wp2_with (first
        | (go_at_call 15; refine hcall.mono ?_; rintro e w1 ⟨rv, l1, rfl, h1, h2, h3, h4⟩)
        | (go_at_call 33; refine (haf w1 rv l1 h1 h2 h3 h4).mono ?_; rintro e w2 ⟨rv2, l2, rfl, m1, m2, m3, m4⟩))
      have hb2 := h4.trans (m4.mono h4.size)
      have hsw := hbw.size
      have hs1 := h4.size
      go_roundg g'
      case measure => omega
      case rel => exact ⟨j + 1, l2, congrArg (Value.int .i64) (by omega), by omega, by omega, m3.low (by omega), m1, fun p hp => by obtain ⟨z, q1, q2⟩ := (m2 p).1 hp; exact ⟨(hTc _ q1).1, (inT_rel G k _ ((h2 _).1 q2)).2⟩, fun p => by rw [m2, htk, joinL_snoc _ hne]; exact behind_congr hmem h2 p, hbw.trans (hb2.mono (by omega)), by omega⟩
    · have hltI : ¬ (j : Int) < (kids.length : Int) := by omega
      go_wp2
      go_ret
      exact RefPost.mk lc hsc (fun p => by rw [hmem, hrelS, List.take_of_length_le (by omega)]) (hrow.low (Nat.le_succ _)) (hW0.trans hbw)
set_option maxHeartbeats 2000000 in
theorem er_alt (v : Value) (G : List T3) (s : ByteArray) (kids : List Wy) (ad : Option Addr) (cap : Nat) (w : World) (hn : G.length ≤ 500) (hk : KidsOk v G w kids ad) (hkl : kids.length ≤ 1000) : EOk v G 4 s kids ad cap w := by
  unfold EOk RefOk
  rw [rel_eq]
  have hrelS : ∀ p, relOf G 4 s (kids.map (rel G)) p ↔ joinL orP (kids.map (rel G)) p := fun p => by simp [relOf]
  have hTl : (termsL G).length ≤ 1000 := by rw [termsL_len]; omega
  obtain ⟨W0, hW0⟩ := boxW w 4 s ad kids.length cap
  have hmade := hW0.made
  have hsz0 := hW0.size
  obtain ⟨e0, e1, e2⟩ := hW0.cells W0 (Below.refl _ _)
  have hrow0 : RowP (w.heap.size + 1) W0 (.slice none 0 0) [] := ⟨rfl, .inl ⟨rfl, rfl⟩⟩
  go_enter Try.func15, Try.ntmps15
  go_wp2
  clear hmade e0 e1 e2
  go_loopg [5, 8] (kids.length + 1) (fun gf l i wx => ∃ (j : Nat) (lc : List Pr), i = .int .i64 (j : Int) ∧ j ≤ kids.length ∧ RowP (w.heap.size + 1) wx l lc ∧ Sorted lc ∧ In2 (termsL G) lc ∧ (∀ p, p ∈ lc ↔ joinL orP ((kids.take j).map (rel G)) p) ∧ Below (w.heap.size + 1) W0 wx ∧ kids.length < gf + j)
  case atStart => exact ⟨0, [], rfl, by omega, hrow0, List.Pairwise.nil, fun p hp => by simp at hp, fun p => by simp [joinL], Below.refl _ _, by omega⟩
  case round =>
    clear hrow0
    obtain ⟨j, lc, rfl, hj, hrow, hsc, hTc, hmem, hbw, hfu⟩ := hrel
    obtain ⟨e0, e1, e2⟩ := hW0.cells wr hbw
    by_cases hlt : j < kids.length
    · have hltI : (j : Int) < (kids.length : Int) := by omega
      obtain ⟨g', rfl⟩ : ∃ g', gk = g' + 1 := ⟨gk - 1, by omega⟩
      obtain ⟨k, hkj⟩ : ∃ k, kids[j]? = some k := ⟨kids[j], List.getElem?_eq_getElem hlt⟩
      obtain ⟨g2, oj, sj, aj, nj, mj, rfl, hfirst⟩ := hk j k hkj
      obtain ⟨⟨c0, c1, c2⟩, hcall⟩ := hfirst wr (hW0.trans hbw)
      have htk : (kids.take (j + 1)).map (rel G) = (kids.take j).map (rel G) ++ [rel G k] := by rw [List.take_add_one, hkj]; simp
      have haf : ∀ w1 rv l1, Sorted l1 → (∀ p, p ∈ l1 ↔ rel G k p) → RowP wr.heap.size w1 rv l1 → Below wr.heap.size wr w1 → RefOk 34 #[u5, rv] w1.heap.size (fun p => p ∈ lc ∨ p ∈ l1) w1 := fun w1 rv l1 h1 h2 h3 h4 =>
        both_ref _ _ lc l1 (termsL G) w1 ((hrow.below h4).low (Nat.zero_le _)) (h3.low (Nat.zero_le _)) hsc hTc (fun p hp => inT_rel G k p ((h2 p).1 hp)) h1 hTl
      unfold RefOk at hcall haf
      clear hfirst hkj
      go_wp2_with (first
        | (go_at_call 15; refine hcall.mono ?_; rintro e w1 ⟨rv, l1, rfl, h1, h2, h3, h4⟩)
        | (go_at_call 34; refine (haf w1 rv l1 h1 h2 h3 h4).mono ?_; rintro e w2 ⟨rv2, l2, rfl, m1, m2, m3, m4⟩))
      have hb2 := h4.trans (m4.mono h4.size)
      have hsw := hbw.size
      have hs1 := h4.size
      go_roundg g'
      case measure => omega
      case rel => exact ⟨j + 1, l2, congrArg (Value.int .i64) (by omega), by omega, m3.low (by omega), m1, fun p hp => ((m2 p).1 hp).elim (hTc p) (fun h => inT_rel G k p ((h2 p).1 h)), fun p => by rw [m2, htk, joinOr_snoc, hmem, h2], hbw.trans (hb2.mono (by omega)), by omega⟩
    · have hltI : ¬ (j : Int) < (kids.length : Int) := by omega
      go_wp2
      go_ret
      exact RefPost.mk lc hsc (fun p => by rw [hmem, hrelS, List.take_of_length_le (by omega)]) (hrow.low (Nat.le_succ _)) (hW0.trans hbw)
end
end Go.Proofs.Ytaeiikielelicaa.Pt
