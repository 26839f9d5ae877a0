/- within; triples held against one another. -/
import Derived.Test.YtaeiikielelicaaPtRef5
set_option linter.unusedVariables false
set_option linter.unusedSimpArgs false
set_option linter.unusedSectionVars false
set_option linter.deprecated false
namespace Go.Proofs.Ytaeiikielelicaa.Pt
open Go.RowKit Go.Proofs Go.Am
open Pm
set_option maxRecDepth 1000000
set_option linter.unusedVariables false
set_option linter.unusedSimpArgs false
noncomputable section
theorem within_calls (a n : Int) (w : World) (h0 : 0 < n) (h1 : n ≤ 1000) (ha : -9223372036854775808 ≤ a) (ha2 : a ≤ 9223372036854775807) : Calls Try.prog 19 #[.int .i64 a, .int .i64 n] w fun e w' => e = .returned (.int .i64 (a % n)) ∧ w' = w := by
  have hn0 : ¬ n = 0 := by omega
  have hnb : (n == 0) = false := beq_eq_false_iff_ne.2 hn0
  have ht1 : a.tmod n < n := by have := Int.tmod_lt_of_pos a h0; omega
  have ht2 : -n < a.tmod n := by
    have := Int.tmod_lt_of_pos (-a) h0
    rw [Int.neg_tmod] at this
    omega
  by_cases hk : a.tmod n < 0
  · have hr : a % n = a.tmod n + n := by
      have hna : (n.natAbs : Int) = n := Int.natAbs_of_nonneg (by omega)
      have := Int.tmod_eq_emod (a := a) (b := n)
      have h3 := Int.emod_nonneg a hn0
      have h4 := Int.emod_lt_of_pos a h0
      split at this <;> omega
    rw [hr]
    go_enter Try.func19, Try.ntmps19
    go_wp2
    go_ret
    exact ⟨rfl, rfl⟩
  · have hr : a % n = a.tmod n := by
      have hna : (n.natAbs : Int) = n := Int.natAbs_of_nonneg (by omega)
      have := Int.tmod_eq_emod (a := a) (b := n)
      have h3 := Int.emod_nonneg a hn0
      have h4 := Int.emod_lt_of_pos a h0
      split at this <;> omega
    rw [hr]
    go_enter Try.func19, Try.ntmps19
    go_wp2
    go_ret
    exact ⟨rfl, rfl⟩
def BoolPost (w : World) (e : Ending) (w' : World) : Prop := ∃ b, e = .returned (.bool b) ∧ Below w.heap.size w w'
def encTr (t : T3) : Value := .agg #[.int .i64 t.1.kind, .string t.1.s, .string t.1.lang, .string t.1.ty, .int .i64 t.2.1.kind, .string t.2.1.s, .string t.2.1.lang, .string t.2.1.ty, .int .i64 t.2.2.kind, .string t.2.2.s, .string t.2.2.lang, .string t.2.2.ty]
theorem box12 {W : World} {B : Nat} {a b c d e f g h i j k l : Value} {t : TypeId} (hB : W.heap[B]? = some (.cells #[a, b, c, d, e, f, g, h, i, j, k, l] t)) :
    W.cell? ⟨B, 0, none⟩ = some a ∧ W.cell? ⟨B, 1, none⟩ = some b ∧ W.cell? ⟨B, 2, none⟩ = some c ∧ W.cell? ⟨B, 3, none⟩ = some d ∧ W.cell? ⟨B, 4, none⟩ = some e ∧ W.cell? ⟨B, 5, none⟩ = some f ∧ W.cell? ⟨B, 6, none⟩ = some g ∧ W.cell? ⟨B, 7, none⟩ = some h ∧
    W.cell? ⟨B, 8, none⟩ = some i ∧ W.cell? ⟨B, 9, none⟩ = some j ∧ W.cell? ⟨B, 10, none⟩ = some k ∧ W.cell? ⟨B, 11, none⟩ = some l := by
  simp [World.cell?, hB]
set_option maxHeartbeats 2000000 in
theorem less3_calls (t u : T3) (w : World) : Calls Try.prog 41 #[encTr t, encTr u] w (BoolPost w) := by
  have hc : ∀ (a b : Tm) W, Calls Try.prog 22 #[.agg #[.int .i64 a.kind, .string a.s, .string a.lang, .string a.ty], .agg #[.int .i64 b.kind, .string b.s, .string b.lang, .string b.ty]] W fun e w' => e = .returned (.int .i64 (cmpT a b)) ∧ Below W.heap.size W w' := rcmp_calls
  unfold encTr
  have hb1 := World.alloc_heap_new w (.cells #[.int .i64 t.1.kind, .string t.1.s, .string t.1.lang, .string t.1.ty, .int .i64 t.2.1.kind, .string t.2.1.s, .string t.2.1.lang, .string t.2.1.ty, .int .i64 t.2.2.kind, .string t.2.2.s, .string t.2.2.lang, .string t.2.2.ty] 43)
  obtain ⟨W1, hW1⟩ : ∃ W1, (w.alloc (.cells #[.int .i64 t.1.kind, .string t.1.s, .string t.1.lang, .string t.1.ty, .int .i64 t.2.1.kind, .string t.2.1.s, .string t.2.1.lang, .string t.2.1.ty, .int .i64 t.2.2.kind, .string t.2.2.s, .string t.2.2.lang, .string t.2.2.ty] 43)) = W1 := ⟨_, rfl⟩
  have hs1 : W1.heap.size = w.heap.size + 1 := by rw [← hW1]; simp
  have hl1 : Below w.heap.size w W1 := by rw [← hW1]; exact (Below.refl _ w).alloc (Nat.le_refl _) _
  rw [hW1] at hb1
  have hb2 := World.alloc_heap_new W1 (.cells #[.int .i64 u.1.kind, .string u.1.s, .string u.1.lang, .string u.1.ty, .int .i64 u.2.1.kind, .string u.2.1.s, .string u.2.1.lang, .string u.2.1.ty, .int .i64 u.2.2.kind, .string u.2.2.s, .string u.2.2.lang, .string u.2.2.ty] 43)
  obtain ⟨W2, hW2⟩ : ∃ W2, (W1.alloc (.cells #[.int .i64 u.1.kind, .string u.1.s, .string u.1.lang, .string u.1.ty, .int .i64 u.2.1.kind, .string u.2.1.s, .string u.2.1.lang, .string u.2.1.ty, .int .i64 u.2.2.kind, .string u.2.2.s, .string u.2.2.lang, .string u.2.2.ty] 43)) = W2 := ⟨_, rfl⟩
  have hl2 : Below W1.heap.size W1 W2 := by rw [← hW2]; exact (Below.refl _ W1).alloc (Nat.le_refl _) _
  rw [hW2, hs1] at hb2
  have hb1' := (hl2.block w.heap.size (by omega)).trans hb1
  have hs2 : W2.heap.size = w.heap.size + 2 := by rw [← hW2]; simp [hs1]
  go_enter Try.func41, Try.ntmps41
  go_wp2
  clear hW1 hW2
  go_loopg [5] 4 (fun gf i wx => ∃ j : Nat, i = .int .i64 (j : Int) ∧ j ≤ 3 ∧ Below (w.heap.size + 2) W2 wx ∧ 3 < gf + j)
  case atStart => exact ⟨0, rfl, by omega, Below.refl _ _, by omega⟩
  case round =>
    obtain ⟨j, rfl, hj, hbw, hfu⟩ := hrel
    have hbt : Below w.heap.size w wr := hl1.trans ((hl2.mono (by omega)).trans (hbw.mono (by omega)))
    obtain ⟨a0, a1, a2, a3, a4, a5, a6, a7, a8, a9, a10, a11⟩ := box12 ((hbw.block w.heap.size (by omega)).trans hb1')
    obtain ⟨d0, d1, d2, d3, d4, d5, d6, d7, d8, d9, d10, d11⟩ := box12 ((hbw.block (w.heap.size + 1) (by omega)).trans hb2)
    clear hb1 hb2 hb1' hl1 hl2
    have hj4 : j = 0 ∨ j = 1 ∨ j = 2 ∨ j = 3 := by omega
    rcases hj4 with rfl | rfl | rfl | rfl
    · obtain ⟨g', rfl⟩ : ∃ g', gk = g' + 1 := ⟨gk - 1, by omega⟩
      go_wp2
      go_region_with (go_at_call 22; refine (hc _ _ _).mono ?_; rintro e w1 ⟨rfl, h1⟩)
      all_goals
        have hb9 : Below w.heap.size w w1 := hbt.drew.trans (h1.mono hbt.size)
        have hb8 : Below (w.heap.size + 2) W2 w1 := hbw.drew.trans (h1.mono (by have := hbw.size; show _ ≤ wr.heap.size; omega))
        by_cases hz : cmpT t.1 u.1 = 0
        · have hzb : (cmpT t.1 u.1 != 0) = false := by rw [hz]; rfl
          go_wp2
          go_roundg g'
          case measure => omega
          case rel => exact ⟨1, rfl, by omega, hb8, by omega⟩
        · have hzb : (cmpT t.1 u.1 != 0) = true := bne_iff_ne.2 hz
          go_wp2
          go_ret
          exact ⟨_, rfl, hb9⟩
    · obtain ⟨g', rfl⟩ : ∃ g', gk = g' + 1 := ⟨gk - 1, by omega⟩
      go_wp2
      go_region_with (go_at_call 22; refine (hc _ _ _).mono ?_; rintro e w1 ⟨rfl, h1⟩)
      all_goals
        have hb9 : Below w.heap.size w w1 := hbt.drew.trans (h1.mono hbt.size)
        have hb8 : Below (w.heap.size + 2) W2 w1 := hbw.drew.trans (h1.mono (by have := hbw.size; show _ ≤ wr.heap.size; omega))
        by_cases hz : cmpT t.2.1 u.2.1 = 0
        · have hzb : (cmpT t.2.1 u.2.1 != 0) = false := by rw [hz]; rfl
          go_wp2
          go_roundg g'
          case measure => omega
          case rel => exact ⟨2, rfl, by omega, hb8, by omega⟩
        · have hzb : (cmpT t.2.1 u.2.1 != 0) = true := bne_iff_ne.2 hz
          go_wp2
          go_ret
          exact ⟨_, rfl, hb9⟩
    · obtain ⟨g', rfl⟩ : ∃ g', gk = g' + 1 := ⟨gk - 1, by omega⟩
      go_wp2
      go_region_with (go_at_call 22; refine (hc _ _ _).mono ?_; rintro e w1 ⟨rfl, h1⟩)
      all_goals
        have hb9 : Below w.heap.size w w1 := hbt.drew.trans (h1.mono hbt.size)
        have hb8 : Below (w.heap.size + 2) W2 w1 := hbw.drew.trans (h1.mono (by have := hbw.size; show _ ≤ wr.heap.size; omega))
        by_cases hz : cmpT t.2.2 u.2.2 = 0
        · have hzb : (cmpT t.2.2 u.2.2 != 0) = false := by rw [hz]; rfl
          go_wp2
          go_roundg g'
          case measure => omega
          case rel => exact ⟨3, rfl, by omega, hb8, by omega⟩
        · have hzb : (cmpT t.2.2 u.2.2 != 0) = true := bne_iff_ne.2 hz
          go_wp2
          go_ret
          exact ⟨_, rfl, hb9⟩
    · go_wp2
      go_ret
      exact ⟨_, rfl, hbt⟩
end
end Go.Proofs.Ytaeiikielelicaa.Pt
