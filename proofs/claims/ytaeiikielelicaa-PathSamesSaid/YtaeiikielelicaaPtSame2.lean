/- Whether two ways are the same: the reference's SamePath. -/
import Derived.Test.YtaeiikielelicaaPtSame
import Derived.Deep.RegionHeld3
set_option linter.unusedVariables false
set_option linter.unusedSimpArgs false
set_option linter.unusedSectionVars false
set_option linter.deprecated false
namespace Go.Proofs.Ytaeiikielelicaa.Pt
open Go.RowKit Go.Proofs Go.Am
open Pm
set_option maxRecDepth 1000000
set_option linter.unusedVariables false
set_option linter.unusedSimpArgs false
noncomputable section
theorem heap_new (w : World) (o : Obj) : (w.alloc o).heap[w.heap.size]? = some o := by
  show (w.heap.push o)[w.heap.size]? = some o
  exact Array.getElem?_push_size
theorem box3s {W : World} {g : Nat} {o : Int} {s : ByteArray} {a : Option Addr} {n m : Nat} (h : W.heap[g]? = some (.cells #[.int .i64 o, .string s, .slice a n m] 28 (0, 0))) : W.cell? ⟨g, 0, none⟩ = some (.int .i64 o) ∧ W.cell? ⟨g, 1, none⟩ = some (.string s) ∧ W.cell? ⟨g, 2, none⟩ = some (.slice a n m) := by simp [World.cell?, h]
set_option maxHeartbeats 8000000 in
theorem samep_step (op op2 : Int) (s s2 : ByteArray) (kids kids2 : List Wy) (a b : Option Addr) (c d : Nat) (w : World) (hl : kids.length ≤ 1000) (hl2 : kids2.length ≤ 1001) (hk : sameK 18 kids kids2 a b w) :
    SameOk 18 (.agg #[.int .i64 op, .string s, .slice a kids.length c]) (.agg #[.int .i64 op2, .string s2, .slice b kids2.length d]) (Wy.mk op s kids = Wy.mk op2 s2 kids2) w := by
  unfold SameOk
  obtain ⟨W1, hW1⟩ : ∃ W1, w.alloc (.cells #[.int .i64 op, .string s, .slice a kids.length c] 28) = W1 := ⟨_, rfl⟩
  obtain ⟨W0, hW0⟩ : ∃ W0, W1.alloc (.cells #[.int .i64 op2, .string s2, .slice b kids2.length d] 28) = W0 := ⟨_, rfl⟩
  have hs1 : W1.heap.size = w.heap.size + 1 := by rw [← hW1]; simp
  have hsz : W0.heap.size = w.heap.size + 2 := by rw [← hW0]; simp [hs1]
  have hb0 : Below w.heap.size w W0 := by rw [← hW0, ← hW1]; exact ((Below.refl _ w).alloc (Nat.le_refl _) _).alloc (by simp) _
  have x0 : W0.heap[w.heap.size]? = some (.cells #[.int .i64 op, .string s, .slice a kids.length c] 28 (0, 0)) := by
    rw [← hW0]; refine (Below.heap_alloc _ _ _ (by omega)).trans ?_
    rw [← hW1]; exact heap_new w _
  have x1 : W0.heap[w.heap.size + 1]? = some (.cells #[.int .i64 op2, .string s2, .slice b kids2.length d] 28 (0, 0)) := by
    rw [← hW0, ← hs1]; exact heap_new W1 _
  have hcell : ∀ W, Below W0.heap.size W0 W → (W.cell? ⟨w.heap.size, 0, none⟩ = some (.int .i64 op) ∧ W.cell? ⟨w.heap.size, 1, none⟩ = some (.string s) ∧ W.cell? ⟨w.heap.size, 2, none⟩ = some (.slice a kids.length c)) ∧ (W.cell? ⟨w.heap.size + 1, 0, none⟩ = some (.int .i64 op2) ∧ W.cell? ⟨w.heap.size + 1, 1, none⟩ = some (.string s2) ∧ W.cell? ⟨w.heap.size + 1, 2, none⟩ = some (.slice b kids2.length d)) := fun W h =>
    ⟨box3s ((h.block w.heap.size (by omega)).trans x0), box3s ((h.block (w.heap.size + 1) (by omega)).trans x1)⟩
  have hc0 := hcell W0 (Below.refl _ _)
  clear x0 x1
  obtain ⟨D, hD⟩ : ∃ D, D = dB (Wy.mk op s kids = Wy.mk op2 s2 kids2) := ⟨_, rfl⟩
  rw [← hD]
  by_cases h1 : op = op2
  · subst h1
    by_cases h2 : s = s2
    · subst h2
      obtain rfl : D = dB (kids = kids2) := hD.trans (by congr 1; simp)
      clear hD
      obtain ⟨D, hD⟩ : ∃ D, D = dB (kids = kids2) := ⟨_, rfl⟩
      rw [← hD]
      by_cases hlen : kids.length = kids2.length
      · have hbI : ((kids.length : Int) != (kids2.length : Int)) = false := by rw [hlen]; simp
        have HL : LenEq kids kids2 := hlen
        clear hlen
        go_enter Try.func18, Try.ntmps18
        go_wp2
        go_loopg [5] (kids.length + 1) (fun gf i wx => ∃ (j : Nat), i = .int .i64 (j : Int) ∧ j ≤ kids.length ∧ kids.take j = kids2.take j ∧ Below W0.heap.size W0 wx ∧ kids.length < gf + j)
        case atStart => exact ⟨0, rfl, by omega, rfl, Below.refl _ _, by omega⟩
        case round =>
          obtain ⟨j, rfl, hj, htk, hbw, hfu⟩ := hrel
          have hcr := hcell wr hbw
          by_cases hlt : j < kids.length
          · have hltI : (j : Int) < (kids.length : Int) := by omega
            have hltJ : (j : Int) < (kids2.length : Int) := by have h : kids.length = kids2.length := HL; omega
            obtain ⟨g', rfl⟩ : ∃ g', gk = g' + 1 := ⟨gk - 1, by omega⟩
            obtain ⟨x, hx⟩ : ∃ x, kids[j]? = some x := ⟨kids[j], List.getElem?_eq_getElem hlt⟩
            obtain ⟨y, hy⟩ : ∃ y, kids2[j]? = some y := ⟨kids2[j], List.getElem?_eq_getElem (by have h : kids.length = kids2.length := HL; omega)⟩
            obtain ⟨ga, gb, oa, ob, sa, sb, aa, ab, na, ma, nb, mb, rfl, rfl, hW⟩ := hk W0 hb0 j x y hx hy
            have hcall := (hW wr.drew hbw.drew).2
            have hall : ∀ W, Below W0.heap.size W0 W → ((W.cell? ⟨w.heap.size, 0, none⟩ = some (.int .i64 op) ∧ W.cell? ⟨w.heap.size, 1, none⟩ = some (.string s) ∧ W.cell? ⟨w.heap.size, 2, none⟩ = some (.slice (some ⟨ga, 0, none⟩) kids.length c)) ∧ (W.cell? ⟨w.heap.size + 1, 0, none⟩ = some (.int .i64 op) ∧ W.cell? ⟨w.heap.size + 1, 1, none⟩ = some (.string s) ∧ W.cell? ⟨w.heap.size + 1, 2, none⟩ = some (.slice (some ⟨gb, 0, none⟩) kids2.length d))) ∧
                (W.cell? ⟨ga, j * 3, none⟩ = some (.int .i64 oa) ∧ W.cell? ⟨ga, j * 3 + 1, none⟩ = some (.string sa) ∧ W.cell? ⟨ga, j * 3 + 2, none⟩ = some (.slice aa na ma) ∧ W.cell? ⟨gb, j * 3, none⟩ = some (.int .i64 ob) ∧ W.cell? ⟨gb, j * 3 + 1, none⟩ = some (.string sb) ∧ W.cell? ⟨gb, j * 3 + 2, none⟩ = some (.slice ab nb mb)) := fun W h => ⟨hcell W h, (hW W h).1⟩
            have hS0 := hall _ hbw.drew
            unfold SameOk at hcall
            clear hW hk hc0
            by_cases hxy : x = y
            · have hd := dB_true hxy
              rw [hd] at hcall
              clear hd
              have htk2 : kids.take (j + 1) = kids2.take (j + 1) := by rw [take_snoc hx, take_snoc hy, htk, hxy]
              clear htk hx hy hxy
              go_wp2
              go_region_held3 (fun W => ((W.cell? ⟨w.heap.size, 0, none⟩ = some (.int .i64 op) ∧ W.cell? ⟨w.heap.size, 1, none⟩ = some (.string s) ∧ W.cell? ⟨w.heap.size, 2, none⟩ = some (.slice (some ⟨ga, 0, none⟩) kids.length c)) ∧ (W.cell? ⟨w.heap.size + 1, 0, none⟩ = some (.int .i64 op) ∧ W.cell? ⟨w.heap.size + 1, 1, none⟩ = some (.string s) ∧ W.cell? ⟨w.heap.size + 1, 2, none⟩ = some (.slice (some ⟨gb, 0, none⟩) kids2.length d))) ∧
                (W.cell? ⟨ga, j * 3, none⟩ = some (.int .i64 oa) ∧ W.cell? ⟨ga, j * 3 + 1, none⟩ = some (.string sa) ∧ W.cell? ⟨ga, j * 3 + 2, none⟩ = some (.slice aa na ma) ∧ W.cell? ⟨gb, j * 3, none⟩ = some (.int .i64 ob) ∧ W.cell? ⟨gb, j * 3 + 1, none⟩ = some (.string sb) ∧ W.cell? ⟨gb, j * 3 + 2, none⟩ = some (.slice ab nb mb))) (first | exact hS0 | exact hS1)
                (first
                | (go_at_call 18; refine hcall.mono ?_; rintro e w1 ⟨rfl, b1⟩; have b2 := hbw.drew.trans (b1.mono hbw.drew.size); have hS1 := hall w1 b2))
              all_goals
                clear hS0 hS1 hcall hall hcell hcr
                go_wp2
                go_roundg g'
                case measure => omega
                case rel => exact ⟨j + 1, congrArg (Value.int .i64) (by omega), by omega, htk2, b2, by omega⟩
            · have hd := dB_false hxy
              rw [hd] at hcall
              clear hd
              obtain rfl : D = false := hD.trans (dB_false (p := kids = kids2) (fun e => hxy (by rw [e, hy] at hx; cases hx; rfl)))
              clear htk hx hy hxy hD
              go_wp2
              go_region_held3 (fun W => ((W.cell? ⟨w.heap.size, 0, none⟩ = some (.int .i64 op) ∧ W.cell? ⟨w.heap.size, 1, none⟩ = some (.string s) ∧ W.cell? ⟨w.heap.size, 2, none⟩ = some (.slice (some ⟨ga, 0, none⟩) kids.length c)) ∧ (W.cell? ⟨w.heap.size + 1, 0, none⟩ = some (.int .i64 op) ∧ W.cell? ⟨w.heap.size + 1, 1, none⟩ = some (.string s) ∧ W.cell? ⟨w.heap.size + 1, 2, none⟩ = some (.slice (some ⟨gb, 0, none⟩) kids2.length d))) ∧
                (W.cell? ⟨ga, j * 3, none⟩ = some (.int .i64 oa) ∧ W.cell? ⟨ga, j * 3 + 1, none⟩ = some (.string sa) ∧ W.cell? ⟨ga, j * 3 + 2, none⟩ = some (.slice aa na ma) ∧ W.cell? ⟨gb, j * 3, none⟩ = some (.int .i64 ob) ∧ W.cell? ⟨gb, j * 3 + 1, none⟩ = some (.string sb) ∧ W.cell? ⟨gb, j * 3 + 2, none⟩ = some (.slice ab nb mb))) (first | exact hS0 | exact hS1)
                (first
                | (go_at_call 18; refine hcall.mono ?_; rintro e w1 ⟨rfl, b1⟩; have b2 := hbw.drew.trans (b1.mono hbw.drew.size); have hS1 := hall w1 b2))
              all_goals
                clear hS0 hS1 hcall hall hcell hcr
                go_wp2
                go_ret
                exact ⟨rfl, hb0.trans (b2.mono hb0.size)⟩
          · have hltI : ¬ (j : Int) < (kids.length : Int) := by omega
            obtain rfl : j = kids.length := by omega
            obtain rfl : D = true := hD.trans (dB_true (eq_of_take HL htk))
            clear hD htk hk
            go_wp2
            go_ret
            exact ⟨rfl, hb0.trans (hbw.mono hb0.size)⟩
      · have hbI : ((kids.length : Int) != (kids2.length : Int)) = true := by simp; omega
        have hlI : ¬ (kids.length : Int) = (kids2.length : Int) := by omega
        obtain rfl : D = false := hD.trans (dB_false (p := kids = kids2) (fun e => hlen (by rw [e])))
        clear hD hk
        go_enter Try.func18, Try.ntmps18
        go_wp2
        go_ret
        exact ⟨rfl, hb0⟩
    · have hs := beqS_false h2
      have hs2 : ¬ s.toList = s2.toList := fun e => h2 (list_bytes e)
      obtain rfl : D = false := hD.trans (dB_false (fun e => h2 (wy_inj.1 e).2.1))
      clear hk hD hl hl2
      go_enter Try.func18, Try.ntmps18
      go_wp2
      go_ret
      exact ⟨rfl, hb0⟩
  · have hs := beqI_false h1
    obtain rfl : D = false := hD.trans (dB_false (fun e => h1 (wy_inj.1 e).1))
    clear hk hD hl hl2
    go_enter Try.func18, Try.ntmps18
    go_wp2
    go_ret
    exact ⟨rfl, hb0⟩
theorem SameP_calls {w : World} {t t2 : Wy} {pv pv2 : Value} (h : RepW w t pv) (h2 : RepW w t2 pv2) : SameOk 18 pv pv2 (t = t2) w := same_all 18 samep_step h w t2 pv2 (Below.refl _ _) h2
end
end Go.Proofs.Ytaeiikielelicaa.Pt
