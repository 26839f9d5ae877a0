/- The maker of ways: a way with ways within. -/
import Derived.Test.YtaeiikielelicaaPtWay1
import Derived.Deep.RegionHeld3
set_option linter.unusedVariables false
set_option linter.unusedSimpArgs false
set_option linter.unusedSectionVars false
set_option linter.deprecated false
namespace Go.Proofs.Ytaeiikielelicaa.Pt
open Go.RowKit Go.Proofs Go.Am
open Pm
set_option maxRecDepth 1000000
set_option linter.unusedVariables false
set_option linter.unusedSimpArgs false
noncomputable section
set_option maxHeartbeats 2000000 in
theorem way_n00 (w0 : World) (b at_ : Nat) (v : Value) (ns : List Int) (d : Nat) (w : World) (hN : NsOk w0 v ns) (hb : w0.heap.size ≤ b) (hl : ns.length ≤ 9223372036854775807) (hA : At w0 b v ns w at_) (hd : d ≤ 1000)
    (ih : ∀ (W : World) (a : Nat), At w0 b v ns W a → Calls Try.prog 25 #[.pointer (some ⟨b, 0, none⟩), .int .i64 (d : Int)] W (WayPost b v W (wayF ns d a)) ∧ (wayF ns d a).2 ≤ ns.length)
    (k op r : Int) (p q : Nat) (h12 : nextF ns at_ 12 = (k, p)) (hk : 3 ≤ k) (hop : 2 + k % 6 = op) (hc : ¬ op = 3 ∧ ¬ op = 4) (h20 : nextF ns p 20 = (r, q)) (hr : ¬ r = 19 ∧ ¬ r = 18 ∧ ¬ r = 17) :
    Calls Try.prog 25 #[.pointer (some ⟨b, 0, none⟩), .int .i64 ((d : Int) + 1)] w (WayPost b v w (.mk op ⟨#[]⟩ (kidsF (wayF ns d) 1 q).1, (kidsF (wayF ns d) 1 q).2)) := by
  have hbw := hA.here.lt
  have b12 := next_bound ns at_ 12 (by decide)
  rw [h12] at b12
  have hkl := b12.2
  dsimp only at hkl
  have c12 := (hA.alloc (.cells #[.int .i64 0, .string ⟨#[]⟩, .slice none 0 0] 28)).calls hN hb hl 12 (by decide) (by decide)
  rw [h12] at c12
  have hA1 : ∀ w1, Mk w1 b v p → (w.alloc (.cells #[.int .i64 0, .string ⟨#[]⟩, .slice none 0 0] 28)).grownBy w1 (some b) → At w0 b v ns w1 p := fun w1 h1 h2 => by
    have := (hA.alloc (.cells #[.int .i64 0, .string ⟨#[]⟩, .slice none 0 0] 28)).next hb 12 (w' := w1) (by rw [h12]; exact h1) h2
    rwa [h12] at this
  have hA2 : ∀ (w1 : World), At w0 b v ns w1 p → Calls Try.prog 42 #[.pointer (some ⟨b, 0, none⟩), .int .i64 20] (w1.alloc (.cells #[.int .i64 op, .string ⟨#[]⟩, .slice none 0 0] 28)) (NextPost b v (w1.alloc (.cells #[.int .i64 op, .string ⟨#[]⟩, .slice none 0 0] 28)) (r, q)) := fun w1 h => by
    have := (h.alloc (.cells #[.int .i64 op, .string ⟨#[]⟩, .slice none 0 0] 28)).calls hN hb hl 20 (by decide) (by decide)
    rwa [h20] at this
  have hA9 : ∀ (w1 w2 : World), At w0 b v ns w1 p → Mk w2 b v q → (w1.alloc (.cells #[.int .i64 op, .string ⟨#[]⟩, .slice none 0 0] 28)).grownBy w2 (some b) → At w0 b v ns w2 q := fun w1 w2 h h1 h2 => by
    have := (h.alloc (.cells #[.int .i64 op, .string ⟨#[]⟩, .slice none 0 0] 28)).next hb 20 (w' := w2) (by rw [h20]; exact h1) h2
    rwa [h20] at this
  have hdI : ¬ (d : Int) + 1 ≤ 0 := by omega
  have hk3 : ¬ k < 3 := by omega
  have h3 : (op == 3) = false := beq_eq_false_iff_ne.2 hc.1
  have h4 : (op == 4) = false := beq_eq_false_iff_ne.2 hc.2
  have r19 : (r == 19) = false := beq_eq_false_iff_ne.2 hr.1
  have r18 : (r == 18) = false := beq_eq_false_iff_ne.2 hr.2.1
  have r17 : (r == 17) = false := beq_eq_false_iff_ne.2 hr.2.2
  clear hc hr h12 h20 b12
  go_enter Try.func25, Try.ntmps25
  go_wp2_with (first
    | (go_at_call_of 42 (Value.int .i64 12); refine c12.mono ?_; rintro e w1 ⟨rfl, m1, m2, m3⟩; have a1 := hA1 w1 m1 m2)
    | (go_at_call_of 42 (Value.int .i64 20); refine (hA2 w1 a1).mono ?_; rintro e w2 ⟨rfl, n1, n2, n3⟩; have a9 := hA9 w1 w2 a1 n1 n2; have hs1 : w1.heap.size = w.heap.size + 1 := (by simpa using m3); have hst0 := st0 (f := wayF ns d) hbw hs1 m2 n2 a9; obtain ⟨i0, i1, i2, i3, i4, i5⟩ := box3 hst0.box))
  have hsz2 := hst0.size
  clear n1 n2 n3 m1 m2 m3 a1 hA1 hA2 c12 a9 hA9 i0 i1 i2 i3 i4 i5
  go_loopg [8] (1 + 1) (fun gf i wx => ∃ (j : Nat) (ks : Value) (cs : List V3), i = .int .i64 (j : Int) ∧ j ≤ 1 ∧ KidSt w0 w b v op ns (wayF ns d) q wx j ks cs ∧ 1 < gf + j)
  case atStart => exact ⟨0, _, _, rfl, by omega, hst0, by omega⟩
  case round =>
    clear hst0
    obtain ⟨j, ks, cs, rfl, hj, hS, hfu⟩ := hrel
    obtain ⟨x0, x1, x2, y0, y1, y2⟩ := box3 hS.box
    by_cases hlt : j < 1
    · have hltI : (j : Int) < 1 := by omega
      obtain ⟨g', rfl⟩ : ∃ g', gk = g' + 1 := ⟨gk - 1, by omega⟩
      have hwd2 : IntKind.i64.wrap (d : Int) = (d : Int) := by unfold IntKind.wrap; simp [IntKind.bits, IntKind.signed]; omega
      have hwd : IntKind.i64.wrap ((d : Int) + 1 - 1) = (d : Int) := by rw [Int.add_sub_cancel]; exact hwd2
      obtain ⟨hcall, hle⟩ := ih wr.drew (kidsF (wayF ns d) j q).2 ⟨hS.pl.bel.drew, hS.pl.here, hS.pl.le⟩
      have hcl := fun W' (hg : wr.grownBy W' (some b)) => hS.cellsAt hbw hg
      obtain ⟨i0, hi, hz0, hz1, hz2⟩ := info_parts info28
      have hsS := hS.size
      go_wp2
      go_region_law (first
        | (refine step_appendO (P := Try.prog) ?_ (.tmp 55) (.tmp 60) 26 ?_ (w.heap.size + 2) 28 i0 _ 3 48 und26 hi hz0 hz1 hz2 rfl (by decide) ks j (cs.flatMap c3) ?_ (c13.alloc _) ⟨w1.heap.size, 0, none⟩ 1 1 [.int .i64 o, .string s, .slice a n m] ?_ rfl (cell_new _ _ _) (by intro u hu; simp only [List.mem_cons, List.not_mem_nil, or_false] at hu; rcases hu with rfl | rfl | rfl <;> rfl) (by unfold maxLen; omega) (by omega) (by simp; omega) ?_; exact rfl; exact rfl; go_simp; go_simp; intro v' w3 hown' hgrow hat; obtain ⟨gz, cz, rfl⟩ := ownsRow_succ hown'; obtain ⟨z1, z2⟩ := hS.cells3 hbw k4 hgrow)
        | (go_simp; go_at_call 25; refine hcall.mono ?_; rintro e w1 ⟨o, s, a, n, m, rfl, k1, k2, k3⟩; have k4 : wr.grownBy w1 (some b) := ⟨k3.os, k3.tape, k3.output, k3.size, k3.block⟩; obtain ⟨c11, c12, c13⟩ := hcl w1 k4; have hs9 := k4.size; have c14 := fun o => (cell_alloc_old w1 o (g := w.heap.size + 1) (i := 2) (by omega)).trans c11))
      all_goals
        have hnx := kid_step hbw hb hS k1 k2 k4 hle hown' hgrow hat
        go_wp2
        go_roundg g'
        case measure => omega
        case rel => exact ⟨j + 1, _, _, congrArg (Value.int .i64) (by omega), by omega, hnx, by omega⟩
    · have hltI : ¬ (j : Int) < 1 := by omega
      obtain ⟨ka, kn, kc, rfl⟩ := hS.shape
      have hjn : j = 1 := by omega
      rw [hjn] at hS
      have hdone := kid_done hbw hS (by omega)
      have hst := run_storeCells_at Try.prog w.heap.size 0 28 [.int .i64 op, .string ⟨#[]⟩, .slice ka kn kc] 0 _ wr hS.res (by simp) (by intro u hu; simp only [List.mem_cons, List.not_mem_nil, or_false] at hu; rcases hu with rfl | rfl | rfl <;> rfl)
      change _ = Result.ok () (wr.setRow w.heap.size #[.int .i64 op, .string ⟨#[]⟩, .slice ka kn kc]) at hst
      have hw3 := setRow_heap wr w.heap.size _ #[.int .i64 op, .string ⟨#[]⟩, .slice ka kn kc] 28 _ hS.res
      clear hjn
      go_wp2_with (refine wpl_storeK _ rfl 28 (.tmp 4) (.tmp 63) rfl rfl ⟨w.heap.size, 0, none⟩ rfl (.agg #[.int .i64 op, .string ⟨#[]⟩, .slice ka kn kc]) rfl 3 sz28 rfl _ hst ?_)
      refine bodyPost_ret (results_cell_row rfl _ _ w.heap.size 28 _ (0, 0) _ rfl hw3 und28 rfl sz28) rfl ?_
      exact hdone
set_option maxHeartbeats 2000000 in
theorem way_n01 (w0 : World) (b at_ : Nat) (v : Value) (ns : List Int) (d : Nat) (w : World) (hN : NsOk w0 v ns) (hb : w0.heap.size ≤ b) (hl : ns.length ≤ 9223372036854775807) (hA : At w0 b v ns w at_) (hd : d ≤ 1000)
    (ih : ∀ (W : World) (a : Nat), At w0 b v ns W a → Calls Try.prog 25 #[.pointer (some ⟨b, 0, none⟩), .int .i64 (d : Int)] W (WayPost b v W (wayF ns d a)) ∧ (wayF ns d a).2 ≤ ns.length)
    (k op r : Int) (p q : Nat) (h12 : nextF ns at_ 12 = (k, p)) (hk : 3 ≤ k) (hop : 2 + k % 6 = op) (hc : ¬ op = 3 ∧ ¬ op = 4) (h20 : nextF ns p 20 = (r, q)) (hr : r = 19) :
    Calls Try.prog 25 #[.pointer (some ⟨b, 0, none⟩), .int .i64 ((d : Int) + 1)] w (WayPost b v w (.mk op ⟨#[]⟩ (kidsF (wayF ns d) 2 q).1, (kidsF (wayF ns d) 2 q).2)) := by
  have hbw := hA.here.lt
  have b12 := next_bound ns at_ 12 (by decide)
  rw [h12] at b12
  have hkl := b12.2
  dsimp only at hkl
  have c12 := (hA.alloc (.cells #[.int .i64 0, .string ⟨#[]⟩, .slice none 0 0] 28)).calls hN hb hl 12 (by decide) (by decide)
  rw [h12] at c12
  have hA1 : ∀ w1, Mk w1 b v p → (w.alloc (.cells #[.int .i64 0, .string ⟨#[]⟩, .slice none 0 0] 28)).grownBy w1 (some b) → At w0 b v ns w1 p := fun w1 h1 h2 => by
    have := (hA.alloc (.cells #[.int .i64 0, .string ⟨#[]⟩, .slice none 0 0] 28)).next hb 12 (w' := w1) (by rw [h12]; exact h1) h2
    rwa [h12] at this
  have hA2 : ∀ (w1 : World), At w0 b v ns w1 p → Calls Try.prog 42 #[.pointer (some ⟨b, 0, none⟩), .int .i64 20] (w1.alloc (.cells #[.int .i64 op, .string ⟨#[]⟩, .slice none 0 0] 28)) (NextPost b v (w1.alloc (.cells #[.int .i64 op, .string ⟨#[]⟩, .slice none 0 0] 28)) (r, q)) := fun w1 h => by
    have := (h.alloc (.cells #[.int .i64 op, .string ⟨#[]⟩, .slice none 0 0] 28)).calls hN hb hl 20 (by decide) (by decide)
    rwa [h20] at this
  have hA9 : ∀ (w1 w2 : World), At w0 b v ns w1 p → Mk w2 b v q → (w1.alloc (.cells #[.int .i64 op, .string ⟨#[]⟩, .slice none 0 0] 28)).grownBy w2 (some b) → At w0 b v ns w2 q := fun w1 w2 h h1 h2 => by
    have := (h.alloc (.cells #[.int .i64 op, .string ⟨#[]⟩, .slice none 0 0] 28)).next hb 20 (w' := w2) (by rw [h20]; exact h1) h2
    rwa [h20] at this
  have hdI : ¬ (d : Int) + 1 ≤ 0 := by omega
  have hk3 : ¬ k < 3 := by omega
  have h3 : (op == 3) = false := beq_eq_false_iff_ne.2 hc.1
  have h4 : (op == 4) = false := beq_eq_false_iff_ne.2 hc.2
  have r19 : (r == 19) = true := beq_iff_eq.2 hr
  clear hc hr h12 h20 b12
  go_enter Try.func25, Try.ntmps25
  go_wp2_with (first
    | (go_at_call_of 42 (Value.int .i64 12); refine c12.mono ?_; rintro e w1 ⟨rfl, m1, m2, m3⟩; have a1 := hA1 w1 m1 m2)
    | (go_at_call_of 42 (Value.int .i64 20); refine (hA2 w1 a1).mono ?_; rintro e w2 ⟨rfl, n1, n2, n3⟩; have a9 := hA9 w1 w2 a1 n1 n2; have hs1 : w1.heap.size = w.heap.size + 1 := (by simpa using m3); have hst0 := st0 (f := wayF ns d) hbw hs1 m2 n2 a9; obtain ⟨i0, i1, i2, i3, i4, i5⟩ := box3 hst0.box))
  have hsz2 := hst0.size
  clear n1 n2 n3 m1 m2 m3 a1 hA1 hA2 c12 a9 hA9 i0 i1 i2 i3 i4 i5
  go_loopg [8] (2 + 1) (fun gf i wx => ∃ (j : Nat) (ks : Value) (cs : List V3), i = .int .i64 (j : Int) ∧ j ≤ 2 ∧ KidSt w0 w b v op ns (wayF ns d) q wx j ks cs ∧ 2 < gf + j)
  case atStart => exact ⟨0, _, _, rfl, by omega, hst0, by omega⟩
  case round =>
    clear hst0
    obtain ⟨j, ks, cs, rfl, hj, hS, hfu⟩ := hrel
    obtain ⟨x0, x1, x2, y0, y1, y2⟩ := box3 hS.box
    by_cases hlt : j < 2
    · have hltI : (j : Int) < 2 := by omega
      obtain ⟨g', rfl⟩ : ∃ g', gk = g' + 1 := ⟨gk - 1, by omega⟩
      have hwd2 : IntKind.i64.wrap (d : Int) = (d : Int) := by unfold IntKind.wrap; simp [IntKind.bits, IntKind.signed]; omega
      have hwd : IntKind.i64.wrap ((d : Int) + 1 - 1) = (d : Int) := by rw [Int.add_sub_cancel]; exact hwd2
      obtain ⟨hcall, hle⟩ := ih wr.drew (kidsF (wayF ns d) j q).2 ⟨hS.pl.bel.drew, hS.pl.here, hS.pl.le⟩
      have hcl := fun W' (hg : wr.grownBy W' (some b)) => hS.cellsAt hbw hg
      obtain ⟨i0, hi, hz0, hz1, hz2⟩ := info_parts info28
      have hsS := hS.size
      go_wp2
      go_region_law (first
        | (refine step_appendO (P := Try.prog) ?_ (.tmp 55) (.tmp 60) 26 ?_ (w.heap.size + 2) 28 i0 _ 3 48 und26 hi hz0 hz1 hz2 rfl (by decide) ks j (cs.flatMap c3) ?_ (c13.alloc _) ⟨w1.heap.size, 0, none⟩ 1 1 [.int .i64 o, .string s, .slice a n m] ?_ rfl (cell_new _ _ _) (by intro u hu; simp only [List.mem_cons, List.not_mem_nil, or_false] at hu; rcases hu with rfl | rfl | rfl <;> rfl) (by unfold maxLen; omega) (by omega) (by simp; omega) ?_; exact rfl; exact rfl; go_simp; go_simp; intro v' w3 hown' hgrow hat; obtain ⟨gz, cz, rfl⟩ := ownsRow_succ hown'; obtain ⟨z1, z2⟩ := hS.cells3 hbw k4 hgrow)
        | (go_simp; go_at_call 25; refine hcall.mono ?_; rintro e w1 ⟨o, s, a, n, m, rfl, k1, k2, k3⟩; have k4 : wr.grownBy w1 (some b) := ⟨k3.os, k3.tape, k3.output, k3.size, k3.block⟩; obtain ⟨c11, c12, c13⟩ := hcl w1 k4; have hs9 := k4.size; have c14 := fun o => (cell_alloc_old w1 o (g := w.heap.size + 1) (i := 2) (by omega)).trans c11))
      all_goals
        have hnx := kid_step hbw hb hS k1 k2 k4 hle hown' hgrow hat
        go_wp2
        go_roundg g'
        case measure => omega
        case rel => exact ⟨j + 1, _, _, congrArg (Value.int .i64) (by omega), by omega, hnx, by omega⟩
    · have hltI : ¬ (j : Int) < 2 := by omega
      obtain ⟨ka, kn, kc, rfl⟩ := hS.shape
      have hjn : j = 2 := by omega
      rw [hjn] at hS
      have hdone := kid_done hbw hS (by omega)
      have hst := run_storeCells_at Try.prog w.heap.size 0 28 [.int .i64 op, .string ⟨#[]⟩, .slice ka kn kc] 0 _ wr hS.res (by simp) (by intro u hu; simp only [List.mem_cons, List.not_mem_nil, or_false] at hu; rcases hu with rfl | rfl | rfl <;> rfl)
      change _ = Result.ok () (wr.setRow w.heap.size #[.int .i64 op, .string ⟨#[]⟩, .slice ka kn kc]) at hst
      have hw3 := setRow_heap wr w.heap.size _ #[.int .i64 op, .string ⟨#[]⟩, .slice ka kn kc] 28 _ hS.res
      clear hjn
      go_wp2_with (refine wpl_storeK _ rfl 28 (.tmp 4) (.tmp 63) rfl rfl ⟨w.heap.size, 0, none⟩ rfl (.agg #[.int .i64 op, .string ⟨#[]⟩, .slice ka kn kc]) rfl 3 sz28 rfl _ hst ?_)
      refine bodyPost_ret (results_cell_row rfl _ _ w.heap.size 28 _ (0, 0) _ rfl hw3 und28 rfl sz28) rfl ?_
      exact hdone
set_option maxHeartbeats 2000000 in
theorem way_n02 (w0 : World) (b at_ : Nat) (v : Value) (ns : List Int) (d : Nat) (w : World) (hN : NsOk w0 v ns) (hb : w0.heap.size ≤ b) (hl : ns.length ≤ 9223372036854775807) (hA : At w0 b v ns w at_) (hd : d ≤ 1000)
    (ih : ∀ (W : World) (a : Nat), At w0 b v ns W a → Calls Try.prog 25 #[.pointer (some ⟨b, 0, none⟩), .int .i64 (d : Int)] W (WayPost b v W (wayF ns d a)) ∧ (wayF ns d a).2 ≤ ns.length)
    (k op r : Int) (p q : Nat) (h12 : nextF ns at_ 12 = (k, p)) (hk : 3 ≤ k) (hop : 2 + k % 6 = op) (hc : ¬ op = 3 ∧ ¬ op = 4) (h20 : nextF ns p 20 = (r, q)) (hr : r = 18) :
    Calls Try.prog 25 #[.pointer (some ⟨b, 0, none⟩), .int .i64 ((d : Int) + 1)] w (WayPost b v w (.mk op ⟨#[]⟩ (kidsF (wayF ns d) 0 q).1, (kidsF (wayF ns d) 0 q).2)) := by
  have hbw := hA.here.lt
  have b12 := next_bound ns at_ 12 (by decide)
  rw [h12] at b12
  have hkl := b12.2
  dsimp only at hkl
  have c12 := (hA.alloc (.cells #[.int .i64 0, .string ⟨#[]⟩, .slice none 0 0] 28)).calls hN hb hl 12 (by decide) (by decide)
  rw [h12] at c12
  have hA1 : ∀ w1, Mk w1 b v p → (w.alloc (.cells #[.int .i64 0, .string ⟨#[]⟩, .slice none 0 0] 28)).grownBy w1 (some b) → At w0 b v ns w1 p := fun w1 h1 h2 => by
    have := (hA.alloc (.cells #[.int .i64 0, .string ⟨#[]⟩, .slice none 0 0] 28)).next hb 12 (w' := w1) (by rw [h12]; exact h1) h2
    rwa [h12] at this
  have hA2 : ∀ (w1 : World), At w0 b v ns w1 p → Calls Try.prog 42 #[.pointer (some ⟨b, 0, none⟩), .int .i64 20] (w1.alloc (.cells #[.int .i64 op, .string ⟨#[]⟩, .slice none 0 0] 28)) (NextPost b v (w1.alloc (.cells #[.int .i64 op, .string ⟨#[]⟩, .slice none 0 0] 28)) (r, q)) := fun w1 h => by
    have := (h.alloc (.cells #[.int .i64 op, .string ⟨#[]⟩, .slice none 0 0] 28)).calls hN hb hl 20 (by decide) (by decide)
    rwa [h20] at this
  have hA9 : ∀ (w1 w2 : World), At w0 b v ns w1 p → Mk w2 b v q → (w1.alloc (.cells #[.int .i64 op, .string ⟨#[]⟩, .slice none 0 0] 28)).grownBy w2 (some b) → At w0 b v ns w2 q := fun w1 w2 h h1 h2 => by
    have := (h.alloc (.cells #[.int .i64 op, .string ⟨#[]⟩, .slice none 0 0] 28)).next hb 20 (w' := w2) (by rw [h20]; exact h1) h2
    rwa [h20] at this
  have hdI : ¬ (d : Int) + 1 ≤ 0 := by omega
  have hk3 : ¬ k < 3 := by omega
  have h3 : (op == 3) = false := beq_eq_false_iff_ne.2 hc.1
  have h4 : (op == 4) = false := beq_eq_false_iff_ne.2 hc.2
  have r19 : (r == 19) = false := beq_eq_false_iff_ne.2 (by omega)
  have r18 : (r == 18) = true := beq_iff_eq.2 hr
  clear hc hr h12 h20 b12
  go_enter Try.func25, Try.ntmps25
  go_wp2_with (first
    | (go_at_call_of 42 (Value.int .i64 12); refine c12.mono ?_; rintro e w1 ⟨rfl, m1, m2, m3⟩; have a1 := hA1 w1 m1 m2)
    | (go_at_call_of 42 (Value.int .i64 20); refine (hA2 w1 a1).mono ?_; rintro e w2 ⟨rfl, n1, n2, n3⟩; have a9 := hA9 w1 w2 a1 n1 n2; have hs1 : w1.heap.size = w.heap.size + 1 := (by simpa using m3); have hst0 := st0 (f := wayF ns d) hbw hs1 m2 n2 a9; obtain ⟨i0, i1, i2, i3, i4, i5⟩ := box3 hst0.box))
  have hsz2 := hst0.size
  clear n1 n2 n3 m1 m2 m3 a1 hA1 hA2 c12 a9 hA9 i0 i1 i2 i3 i4 i5
  go_loopg [8] (0 + 1) (fun gf i wx => ∃ (j : Nat) (ks : Value) (cs : List V3), i = .int .i64 (j : Int) ∧ j ≤ 0 ∧ KidSt w0 w b v op ns (wayF ns d) q wx j ks cs ∧ 0 < gf + j)
  case atStart => exact ⟨0, _, _, rfl, by omega, hst0, by omega⟩
  case round =>
    clear hst0
    obtain ⟨j, ks, cs, rfl, hj, hS, hfu⟩ := hrel
    obtain ⟨x0, x1, x2, y0, y1, y2⟩ := box3 hS.box
    by_cases hlt : j < 0
    · have hltI : (j : Int) < 0 := by omega
      obtain ⟨g', rfl⟩ : ∃ g', gk = g' + 1 := ⟨gk - 1, by omega⟩
      have hwd2 : IntKind.i64.wrap (d : Int) = (d : Int) := by unfold IntKind.wrap; simp [IntKind.bits, IntKind.signed]; omega
      have hwd : IntKind.i64.wrap ((d : Int) + 1 - 1) = (d : Int) := by rw [Int.add_sub_cancel]; exact hwd2
      obtain ⟨hcall, hle⟩ := ih wr.drew (kidsF (wayF ns d) j q).2 ⟨hS.pl.bel.drew, hS.pl.here, hS.pl.le⟩
      have hcl := fun W' (hg : wr.grownBy W' (some b)) => hS.cellsAt hbw hg
      obtain ⟨i0, hi, hz0, hz1, hz2⟩ := info_parts info28
      have hsS := hS.size
      go_wp2
      go_region_law (first
        | (refine step_appendO (P := Try.prog) ?_ (.tmp 55) (.tmp 60) 26 ?_ (w.heap.size + 2) 28 i0 _ 3 48 und26 hi hz0 hz1 hz2 rfl (by decide) ks j (cs.flatMap c3) ?_ (c13.alloc _) ⟨w1.heap.size, 0, none⟩ 1 1 [.int .i64 o, .string s, .slice a n m] ?_ rfl (cell_new _ _ _) (by intro u hu; simp only [List.mem_cons, List.not_mem_nil, or_false] at hu; rcases hu with rfl | rfl | rfl <;> rfl) (by unfold maxLen; omega) (by omega) (by simp; omega) ?_; exact rfl; exact rfl; go_simp; go_simp; intro v' w3 hown' hgrow hat; obtain ⟨gz, cz, rfl⟩ := ownsRow_succ hown'; obtain ⟨z1, z2⟩ := hS.cells3 hbw k4 hgrow)
        | (go_simp; go_at_call 25; refine hcall.mono ?_; rintro e w1 ⟨o, s, a, n, m, rfl, k1, k2, k3⟩; have k4 : wr.grownBy w1 (some b) := ⟨k3.os, k3.tape, k3.output, k3.size, k3.block⟩; obtain ⟨c11, c12, c13⟩ := hcl w1 k4; have hs9 := k4.size; have c14 := fun o => (cell_alloc_old w1 o (g := w.heap.size + 1) (i := 2) (by omega)).trans c11))
      all_goals
        have hnx := kid_step hbw hb hS k1 k2 k4 hle hown' hgrow hat
        go_wp2
        go_roundg g'
        case measure => omega
        case rel => exact ⟨j + 1, _, _, congrArg (Value.int .i64) (by omega), by omega, hnx, by omega⟩
    · have hltI : ¬ (j : Int) < 0 := by omega
      obtain ⟨ka, kn, kc, rfl⟩ := hS.shape
      have hjn : j = 0 := by omega
      rw [hjn] at hS
      have hdone := kid_done hbw hS (by omega)
      have hst := run_storeCells_at Try.prog w.heap.size 0 28 [.int .i64 op, .string ⟨#[]⟩, .slice ka kn kc] 0 _ wr hS.res (by simp) (by intro u hu; simp only [List.mem_cons, List.not_mem_nil, or_false] at hu; rcases hu with rfl | rfl | rfl <;> rfl)
      change _ = Result.ok () (wr.setRow w.heap.size #[.int .i64 op, .string ⟨#[]⟩, .slice ka kn kc]) at hst
      have hw3 := setRow_heap wr w.heap.size _ #[.int .i64 op, .string ⟨#[]⟩, .slice ka kn kc] 28 _ hS.res
      clear hjn
      go_wp2_with (refine wpl_storeK _ rfl 28 (.tmp 4) (.tmp 63) rfl rfl ⟨w.heap.size, 0, none⟩ rfl (.agg #[.int .i64 op, .string ⟨#[]⟩, .slice ka kn kc]) rfl 3 sz28 rfl _ hst ?_)
      refine bodyPost_ret (results_cell_row rfl _ _ w.heap.size 28 _ (0, 0) _ rfl hw3 und28 rfl sz28) rfl ?_
      exact hdone
set_option maxHeartbeats 2000000 in
theorem way_n03 (w0 : World) (b at_ : Nat) (v : Value) (ns : List Int) (d : Nat) (w : World) (hN : NsOk w0 v ns) (hb : w0.heap.size ≤ b) (hl : ns.length ≤ 9223372036854775807) (hA : At w0 b v ns w at_) (hd : d ≤ 1000)
    (ih : ∀ (W : World) (a : Nat), At w0 b v ns W a → Calls Try.prog 25 #[.pointer (some ⟨b, 0, none⟩), .int .i64 (d : Int)] W (WayPost b v W (wayF ns d a)) ∧ (wayF ns d a).2 ≤ ns.length)
    (k op r : Int) (p q : Nat) (h12 : nextF ns at_ 12 = (k, p)) (hk : 3 ≤ k) (hop : 2 + k % 6 = op) (hc : ¬ op = 3 ∧ ¬ op = 4) (h20 : nextF ns p 20 = (r, q)) (hr : r = 17) :
    Calls Try.prog 25 #[.pointer (some ⟨b, 0, none⟩), .int .i64 ((d : Int) + 1)] w (WayPost b v w (.mk 8 ⟨#[]⟩ (kidsF (wayF ns d) 1 q).1, (kidsF (wayF ns d) 1 q).2)) := by
  have hbw := hA.here.lt
  have b12 := next_bound ns at_ 12 (by decide)
  rw [h12] at b12
  have hkl := b12.2
  dsimp only at hkl
  have c12 := (hA.alloc (.cells #[.int .i64 0, .string ⟨#[]⟩, .slice none 0 0] 28)).calls hN hb hl 12 (by decide) (by decide)
  rw [h12] at c12
  have hA1 : ∀ w1, Mk w1 b v p → (w.alloc (.cells #[.int .i64 0, .string ⟨#[]⟩, .slice none 0 0] 28)).grownBy w1 (some b) → At w0 b v ns w1 p := fun w1 h1 h2 => by
    have := (hA.alloc (.cells #[.int .i64 0, .string ⟨#[]⟩, .slice none 0 0] 28)).next hb 12 (w' := w1) (by rw [h12]; exact h1) h2
    rwa [h12] at this
  have hA2 : ∀ (w1 : World), At w0 b v ns w1 p → Calls Try.prog 42 #[.pointer (some ⟨b, 0, none⟩), .int .i64 20] (w1.alloc (.cells #[.int .i64 op, .string ⟨#[]⟩, .slice none 0 0] 28)) (NextPost b v (w1.alloc (.cells #[.int .i64 op, .string ⟨#[]⟩, .slice none 0 0] 28)) (r, q)) := fun w1 h => by
    have := (h.alloc (.cells #[.int .i64 op, .string ⟨#[]⟩, .slice none 0 0] 28)).calls hN hb hl 20 (by decide) (by decide)
    rwa [h20] at this
  have hA9 : ∀ (w1 w2 : World), At w0 b v ns w1 p → Mk w2 b v q → (w1.alloc (.cells #[.int .i64 op, .string ⟨#[]⟩, .slice none 0 0] 28)).grownBy w2 (some b) → At w0 b v ns w2 q := fun w1 w2 h h1 h2 => by
    have := (h.alloc (.cells #[.int .i64 op, .string ⟨#[]⟩, .slice none 0 0] 28)).next hb 20 (w' := w2) (by rw [h20]; exact h1) h2
    rwa [h20] at this
  have hdI : ¬ (d : Int) + 1 ≤ 0 := by omega
  have hk3 : ¬ k < 3 := by omega
  have h3 : (op == 3) = false := beq_eq_false_iff_ne.2 hc.1
  have h4 : (op == 4) = false := beq_eq_false_iff_ne.2 hc.2
  have r19 : (r == 19) = false := beq_eq_false_iff_ne.2 (by omega)
  have r18 : (r == 18) = false := beq_eq_false_iff_ne.2 (by omega)
  have r17 : (r == 17) = true := beq_iff_eq.2 hr
  clear hc hr h12 h20 b12
  go_enter Try.func25, Try.ntmps25
  go_wp2_with (first
    | (go_at_call_of 42 (Value.int .i64 12); refine c12.mono ?_; rintro e w1 ⟨rfl, m1, m2, m3⟩; have a1 := hA1 w1 m1 m2)
    | (go_at_call_of 42 (Value.int .i64 20); refine (hA2 w1 a1).mono ?_; rintro e w2 ⟨rfl, n1, n2, n3⟩; have a9 := hA9 w1 w2 a1 n1 n2; have hs1 : w1.heap.size = w.heap.size + 1 := (by simpa using m3); have hst0 := st0 (f := wayF ns d) hbw hs1 m2 n2 a9; obtain ⟨i0, i1, i2, i3, i4, i5⟩ := box3 hst0.box))
  replace hst0 := st8 hbw hb hst0
  have hsz2 := hst0.size
  clear n1 n2 n3 m1 m2 m3 a1 hA1 hA2 c12 a9 hA9 i0 i1 i2 i3 i4 i5
  go_loopg [8] (1 + 1) (fun gf i wx => ∃ (j : Nat) (ks : Value) (cs : List V3), i = .int .i64 (j : Int) ∧ j ≤ 1 ∧ KidSt w0 w b v 8 ns (wayF ns d) q wx j ks cs ∧ 1 < gf + j)
  case atStart => exact ⟨0, _, _, rfl, by omega, hst0, by omega⟩
  case round =>
    clear hst0
    obtain ⟨j, ks, cs, rfl, hj, hS, hfu⟩ := hrel
    obtain ⟨x0, x1, x2, y0, y1, y2⟩ := box3 hS.box
    by_cases hlt : j < 1
    · have hltI : (j : Int) < 1 := by omega
      obtain ⟨g', rfl⟩ : ∃ g', gk = g' + 1 := ⟨gk - 1, by omega⟩
      have hwd2 : IntKind.i64.wrap (d : Int) = (d : Int) := by unfold IntKind.wrap; simp [IntKind.bits, IntKind.signed]; omega
      have hwd : IntKind.i64.wrap ((d : Int) + 1 - 1) = (d : Int) := by rw [Int.add_sub_cancel]; exact hwd2
      obtain ⟨hcall, hle⟩ := ih wr.drew (kidsF (wayF ns d) j q).2 ⟨hS.pl.bel.drew, hS.pl.here, hS.pl.le⟩
      have hcl := fun W' (hg : wr.grownBy W' (some b)) => hS.cellsAt hbw hg
      obtain ⟨i0, hi, hz0, hz1, hz2⟩ := info_parts info28
      have hsS := hS.size
      go_wp2
      go_region_law (first
        | (refine step_appendO (P := Try.prog) ?_ (.tmp 55) (.tmp 60) 26 ?_ (w.heap.size + 2) 28 i0 _ 3 48 und26 hi hz0 hz1 hz2 rfl (by decide) ks j (cs.flatMap c3) ?_ (c13.alloc _) ⟨w1.heap.size, 0, none⟩ 1 1 [.int .i64 o, .string s, .slice a n m] ?_ rfl (cell_new _ _ _) (by intro u hu; simp only [List.mem_cons, List.not_mem_nil, or_false] at hu; rcases hu with rfl | rfl | rfl <;> rfl) (by unfold maxLen; omega) (by omega) (by simp; omega) ?_; exact rfl; exact rfl; go_simp; go_simp; intro v' w3 hown' hgrow hat; obtain ⟨gz, cz, rfl⟩ := ownsRow_succ hown'; obtain ⟨z1, z2⟩ := hS.cells3 hbw k4 hgrow)
        | (go_simp; go_at_call 25; refine hcall.mono ?_; rintro e w1 ⟨o, s, a, n, m, rfl, k1, k2, k3⟩; have k4 : wr.grownBy w1 (some b) := ⟨k3.os, k3.tape, k3.output, k3.size, k3.block⟩; obtain ⟨c11, c12, c13⟩ := hcl w1 k4; have hs9 := k4.size; have c14 := fun o => (cell_alloc_old w1 o (g := w.heap.size + 1) (i := 2) (by omega)).trans c11))
      all_goals
        have hnx := kid_step hbw hb hS k1 k2 k4 hle hown' hgrow hat
        go_wp2
        go_roundg g'
        case measure => omega
        case rel => exact ⟨j + 1, _, _, congrArg (Value.int .i64) (by omega), by omega, hnx, by omega⟩
    · have hltI : ¬ (j : Int) < 1 := by omega
      obtain ⟨ka, kn, kc, rfl⟩ := hS.shape
      have hjn : j = 1 := by omega
      rw [hjn] at hS
      have hdone := kid_done hbw hS (by omega)
      have hst := run_storeCells_at Try.prog w.heap.size 0 28 [.int .i64 8, .string ⟨#[]⟩, .slice ka kn kc] 0 _ wr hS.res (by simp) (by intro u hu; simp only [List.mem_cons, List.not_mem_nil, or_false] at hu; rcases hu with rfl | rfl | rfl <;> rfl)
      change _ = Result.ok () (wr.setRow w.heap.size #[.int .i64 8, .string ⟨#[]⟩, .slice ka kn kc]) at hst
      have hw3 := setRow_heap wr w.heap.size _ #[.int .i64 8, .string ⟨#[]⟩, .slice ka kn kc] 28 _ hS.res
      clear hjn
      go_wp2_with (refine wpl_storeK _ rfl 28 (.tmp 4) (.tmp 63) rfl rfl ⟨w.heap.size, 0, none⟩ rfl (.agg #[.int .i64 8, .string ⟨#[]⟩, .slice ka kn kc]) rfl 3 sz28 rfl _ hst ?_)
      refine bodyPost_ret (results_cell_row rfl _ _ w.heap.size 28 _ (0, 0) _ rfl hw3 und28 rfl sz28) rfl ?_
      exact hdone
end
end Go.Proofs.Ytaeiikielelicaa.Pt
