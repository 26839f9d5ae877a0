/- The maker of ways: all of it; Way; rows of pairs held against one another; known. -/
import Derived.Test.YtaeiikielelicaaPtWayN0
import Derived.Test.YtaeiikielelicaaPtWayN1
import Derived.Test.YtaeiikielelicaaPtWayN2
import Derived.Test.YtaeiikielelicaaPtGraph
set_option linter.unusedVariables false
set_option linter.unusedSimpArgs false
set_option linter.unusedSectionVars false
set_option linter.deprecated false
namespace Go.Proofs.Ytaeiikielelicaa.Pt
open Go.RowKit Go.Proofs Go.Am
open Pm
set_option maxRecDepth 1000000
set_option linter.unusedVariables false
set_option linter.unusedSimpArgs false
noncomputable section
theorem leaf_at (ns : List Int) (a : Nat) (h : a ≤ ns.length) : (leafF ns a).2 ≤ ns.length := next_at ns a 4 h
theorem kids_at {ns : List Int} {f : Nat → Wy × Nat} (hf : ∀ a, a ≤ ns.length → (f a).2 ≤ ns.length) : ∀ (n a : Nat), a ≤ ns.length → (kidsF f n a).2 ≤ ns.length
  | 0, a, h => h
  | n + 1, a, h => hf _ (kids_at hf n a h)
theorem way_at (ns : List Int) : ∀ (d a : Nat), a ≤ ns.length → (wayF ns d a).2 ≤ ns.length
  | 0, a, h => leaf_at ns _ (next_at ns a 12 h)
  | d + 1, a, h => by
    unfold wayF
    dsimp only
    split
    · exact leaf_at ns _ (next_at ns a 12 h)
    · refine kids_at (fun x hx => way_at ns d x hx) _ _ (next_at ns _ 20 ?_)
      unfold cntF
      split
      · exact next_at ns _ 2 (next_at ns a 12 h)
      · exact next_at ns a 12 h
theorem way_calls (w0 : World) (b : Nat) (v : Value) (ns : List Int) (hN : NsOk w0 v ns) (hb : w0.heap.size ≤ b) (hl : ns.length ≤ 9223372036854775807) : ∀ (d : Nat), d ≤ 1000 → ∀ (W : World) (a : Nat), At w0 b v ns W a → Calls Try.prog 25 #[.pointer (some ⟨b, 0, none⟩), .int .i64 (d : Int)] W (WayPost b v W (wayF ns d a)) := by
  intro d
  induction d with
  | zero =>
    intro hd W a hA
    exact way_leaf w0 b a v ns 0 W hN hb hl hA (by omega) (.inl rfl)
  | succ d ih =>
    intro hd W a hA
    have ih' : ∀ (W : World) (a : Nat), At w0 b v ns W a → Calls Try.prog 25 #[.pointer (some ⟨b, 0, none⟩), .int .i64 (d : Int)] W (WayPost b v W (wayF ns d a)) ∧ (wayF ns d a).2 ≤ ns.length := fun W a h => ⟨ih (by omega) W a h, way_at ns d a h.le⟩
    by_cases hk : (nextF ns a 12).1 < 3
    · have e : wayF ns (d + 1) a = leafF ns (nextF ns a 12).2 := by unfold wayF; dsimp only; rw [if_pos hk]
      rw [e]
      exact way_leaf w0 b a v ns (d + 1) W hN hb hl hA (by omega) (.inr hk)
    · obtain ⟨k, p, h12⟩ : ∃ k p, nextF ns a 12 = (k, p) := ⟨_, _, rfl⟩
      have hk3 : 3 ≤ k := by rw [h12] at hk; dsimp only at hk; omega
      obtain ⟨op, hop⟩ : ∃ op, 2 + k % 6 = op := ⟨_, rfl⟩
      have e : wayF ns (d + 1) a = (.mk (lastF (nextF ns (cntF ns op p).2 20).1 op) ⟨#[]⟩ (kidsF (wayF ns d) (numF (nextF ns (cntF ns op p).2 20).1 (cntF ns op p).1).toNat (nextF ns (cntF ns op p).2 20).2).1, (kidsF (wayF ns d) (numF (nextF ns (cntF ns op p).2 20).1 (cntF ns op p).1).toNat (nextF ns (cntF ns op p).2 20).2).2) := by
        rw [wayF]
        dsimp only
        rw [h12, if_neg (by dsimp only; omega)]
        unfold opF
        dsimp only
        rw [hop]
      rw [e]
      rw [show ((d + 1 : Nat) : Int) = (d : Int) + 1 by omega]
      by_cases hc : op = 3 ∨ op = 4
      · have e2 : cntF ns op p = (2 + (nextF ns p 2).1, (nextF ns p 2).2) := by unfold cntF; rw [if_pos hc]
        have b2 := next_bound ns p 2 (by decide)
        obtain ⟨x, p2, h2⟩ : ∃ x p2, nextF ns p 2 = (x, p2) := ⟨_, _, rfl⟩
        rw [h2] at b2
        dsimp only at b2
        rw [e2, h2]
        dsimp only
        obtain ⟨r, q, h20⟩ : ∃ r q, nextF ns p2 20 = (r, q) := ⟨_, _, rfl⟩
        rw [h20]
        dsimp only
        obtain ⟨c0, hx⟩ : ∃ c0 : Nat, 2 + x = (c0 : Int) := ⟨(2 + x).toNat, by omega⟩
        have hc0 : c0 ≤ 3 := by omega
        unfold lastF numF
        rcases hc with hc | hc
        · by_cases r19 : r = 19
          · rw [if_neg (by omega), if_pos r19, show (2 + x + 1).toNat = c0 + 1 by omega]
            exact way_n11 w0 b a v ns d W hN hb hl hA (by omega) ih' k op r x p p2 q c0 h12 hk3 hop hc h2 hx hc0 h20 r19
          · rw [if_neg r19]
            by_cases r18 : r = 18
            · rw [if_neg (by omega), if_pos r18]
              exact way_n12 w0 b a v ns d W hN hb hl hA (by omega) ih' k op r x p p2 q c0 h12 hk3 hop hc h2 hx hc0 h20 r18
            · rw [if_neg r18, show (2 + x).toNat = c0 by omega]
              by_cases r17 : r = 17
              · rw [if_pos r17]
                exact way_n13 w0 b a v ns d W hN hb hl hA (by omega) ih' k op r x p p2 q c0 h12 hk3 hop hc h2 hx hc0 h20 r17
              · rw [if_neg r17]
                exact way_n10 w0 b a v ns d W hN hb hl hA (by omega) ih' k op r x p p2 q c0 h12 hk3 hop hc h2 hx hc0 h20 ⟨r19, r18, r17⟩
        · by_cases r19 : r = 19
          · rw [if_neg (by omega), if_pos r19, show (2 + x + 1).toNat = c0 + 1 by omega]
            exact way_n21 w0 b a v ns d W hN hb hl hA (by omega) ih' k op r x p p2 q c0 h12 hk3 hop hc h2 hx hc0 h20 r19
          · rw [if_neg r19]
            by_cases r18 : r = 18
            · rw [if_neg (by omega), if_pos r18]
              exact way_n22 w0 b a v ns d W hN hb hl hA (by omega) ih' k op r x p p2 q c0 h12 hk3 hop hc h2 hx hc0 h20 r18
            · rw [if_neg r18, show (2 + x).toNat = c0 by omega]
              by_cases r17 : r = 17
              · rw [if_pos r17]
                exact way_n23 w0 b a v ns d W hN hb hl hA (by omega) ih' k op r x p p2 q c0 h12 hk3 hop hc h2 hx hc0 h20 r17
              · rw [if_neg r17]
                exact way_n20 w0 b a v ns d W hN hb hl hA (by omega) ih' k op r x p p2 q c0 h12 hk3 hop hc h2 hx hc0 h20 ⟨r19, r18, r17⟩
      · have e2 : cntF ns op p = (1, p) := by unfold cntF; rw [if_neg hc]
        have hcc : ¬ op = 3 ∧ ¬ op = 4 := ⟨fun h => hc (.inl h), fun h => hc (.inr h)⟩
        rw [e2]
        dsimp only
        obtain ⟨r, q, h20⟩ : ∃ r q, nextF ns p 20 = (r, q) := ⟨_, _, rfl⟩
        rw [h20]
        dsimp only
        unfold lastF numF
        by_cases r19 : r = 19
        · rw [if_neg (by omega), if_pos r19]
          exact way_n01 w0 b a v ns d W hN hb hl hA (by omega) ih' k op r p q h12 hk3 hop hcc h20 r19
        · rw [if_neg r19]
          by_cases r18 : r = 18
          · rw [if_neg (by omega), if_pos r18]
            exact way_n02 w0 b a v ns d W hN hb hl hA (by omega) ih' k op r p q h12 hk3 hop hcc h20 r18
          · rw [if_neg r18]
            by_cases r17 : r = 17
            · rw [if_pos r17]
              exact way_n03 w0 b a v ns d W hN hb hl hA (by omega) ih' k op r p q h12 hk3 hop hcc h20 r17
            · rw [if_neg r17]
              exact way_n00 w0 b a v ns d W hN hb hl hA (by omega) ih' k op r p q h12 hk3 hop hcc h20 ⟨r19, r18, r17⟩
def WPost (w : World) (t : Wy) (e : Ending) (w' : World) : Prop := ∃ o s a n m, e = .returned (.agg #[.int .i64 o, .string s, .slice a n m]) ∧ RepW w' t (.agg #[.int .i64 o, .string s, .slice a n m]) ∧ Below w.heap.size w w'
set_option maxHeartbeats 1000000 in
theorem Way_calls (v : Value) (ns : List Int) (w : World) (hN : NsOk w v ns) (hl : ns.length ≤ 9223372036854775807) : Calls Try.prog 12 #[v] w (WPost w (wayF ns 3 0).1) := by
  have hA : At w (w.heap.size + 1) v ns ((w.alloc (.cells #[.int .i64 0, .string ⟨#[]⟩, .slice none 0 0] 28)).alloc (.cells #[v, .int .i64 0] 55)) 0 := by
    refine ⟨((Below.refl _ w).alloc (Nat.le_refl _) _).alloc (by simp) _, ?_, Nat.zero_le _⟩
    have := World.alloc_heap_new (w.alloc (.cells #[.int .i64 0, .string ⟨#[]⟩, .slice none 0 0] 28)) (.cells #[v, .int .i64 0] 55)
    rwa [World.size_alloc] at this
  have hc := way_calls w (w.heap.size + 1) v ns hN (by omega) hl 3 (by decide) _ 0 hA
  change Calls Try.prog 25 #[.pointer (some ⟨w.heap.size + 1, 0, none⟩), .int .i64 3] _ _ at hc
  obtain ⟨ad, cap, rfl, -⟩ := hN
  clear hA
  generalize wayF ns 3 0 = T at hc ⊢
  go_enter Try.func12, Try.ntmps12
  go_wp2_with (first
    | (go_at_call 25; refine hc.mono ?_; rintro e w1 ⟨o, s, a, n, m, rfl, k1, k2, k3⟩
       have hbx := (k3.block w.heap.size (by simp; omega) (by simp)).trans ((Below.heap_alloc _ _ _ (by simp)).trans (World.alloc_heap_new w _))
       have hst := run_storeCells_at Try.prog w.heap.size 0 28 [.int .i64 o, .string s, .slice a n m] 0 _ w1 hbx (by simp) (by intro u hu; simp only [List.mem_cons, List.not_mem_nil, or_false] at hu; rcases hu with rfl | rfl | rfl <;> rfl)
       change _ = Result.ok () (w1.setRow w.heap.size #[.int .i64 o, .string s, .slice a n m]) at hst
       have hw3 := setRow_heap w1 w.heap.size _ #[.int .i64 o, .string s, .slice a n m] 28 _ hbx)
    | (refine wpl_storeK _ rfl 28 (.tmp 2) (.tmp 8) rfl rfl ⟨w.heap.size, 0, none⟩ rfl (.agg #[.int .i64 o, .string s, .slice a n m]) rfl 3 sz28 rfl _ hst ?_))
  refine bodyPost_ret (results_cell_row rfl _ _ w.heap.size 28 _ (0, 0) _ rfl hw3 und28 rfl sz28) rfl ?_
  have hsz := k3.size
  simp only [World.size_alloc] at hsz k1
  refine ⟨_, _, _, _, _, rfl, ((k1.kept (w' := w1.setRow w.heap.size #[.int .i64 o, .string s, .slice a n m]) (by simp [World.setRow]) (fun g hN _ => setRow_other w1 _ g _ (by omega))).rep), ⟨k3.os, k3.tape, k3.output, by simp [World.setRow]; omega, fun g hg => ?_⟩⟩
  exact (setRow_other w1 _ g _ (by omega)).trans ((k3.block g (by simp; omega) (by simp; omega)).trans ((Below.heap_alloc _ _ _ (by simp; omega)).trans (Below.heap_alloc _ _ _ hg)))
set_option maxHeartbeats 1000000 in
theorem pairs_true (va vb : Value) (l : List Pr) (w : World) (ha : RowP 0 w va l) (hb : RowP 0 w vb l) (hl : l.length ≤ 1000000) : Calls Try.prog 13 #[va, vb] w fun e w' => e = .returned (.bool true) ∧ Below w.heap.size w w' := by
  obtain ⟨ada, ca, rfl, hva⟩ := ha.view
  obtain ⟨adb, cb, rfl, hvb⟩ := hb.view
  go_enter Try.func13, Try.ntmps13
  go_wp2
  go_loopg [5] (l.length + 1) (fun gf i wx => ∃ (j : Nat), i = .int .i64 (j : Int) ∧ j ≤ l.length ∧ Below w.heap.size w wx ∧ l.length < gf + j)
  case atStart => exact ⟨0, rfl, by omega, Below.refl _ _, by omega⟩
  case round =>
    clear hva hvb
    obtain ⟨j, rfl, hj, hbw, hfu⟩ := hrel
    by_cases hlt : j < l.length
    · have hltI : (j : Int) < (l.length : Int) := by omega
      obtain ⟨g', rfl⟩ : ∃ g', gk = g' + 1 := ⟨gk - 1, by omega⟩
      obtain ⟨⟨x, y⟩, hq⟩ : ∃ q, l[j]? = some q := ⟨l[j], List.getElem?_eq_getElem hlt⟩
      obtain ⟨ga, rfl, k0, k1, k2, k3, k4, k5, k6, k7⟩ := view_at (ha.below hbw) hq
      obtain ⟨gb, rfl, m0, m1, m2, m3, m4, m5, m6, m7⟩ := view_at (hb.below hbw) hq
      have heq := fun W => eqP_runW (x, y) (x, y) W
      dsimp only [encP] at heq
      simp only [decide_true] at heq
      clear hq
      go_wp2
      go_quiet (fail)
      go_wp2
      go_roundg g'
      case measure => omega
      case rel => exact ⟨j + 1, congrArg (Value.int .i64) (by omega), by omega, ⟨hbw.os, hbw.tape, hbw.output, hbw.size, hbw.block⟩, by omega⟩
    · have hltI : ¬ (j : Int) < (l.length : Int) := by omega
      go_wp2
      go_ret
      exact ⟨rfl, hbw⟩
end
end Go.Proofs.Ytaeiikielelicaa.Pt
