/- What lex and the reference answer, function by function (LexTokens, part LC). -/
import Derived.Test.YtcanfpppllhogaaDoorLtLB
import Derived.Laws.ResultCell
import Derived.Laws.Concat
namespace Go.Proofs.YtcanfpppllhogaaDoor.Lx
open Go.RowKit Go.Proofs
open Go.Am (spanL)
noncomputable section

/-! ### the law's texts: pieces put together -/
theorem sum_named (a b : ByteArray) (h : a.size + b.size ≤ 9223372036854775807) : ∃ y : ByteArray, y.size = a.size + b.size ∧ ∀ W : World, (Op.stringOp .add a b).run Tryd.prog W = .ok (.string y) W :=
  ⟨_, ByteArray.size_append, fun W => run_string_add_sum W a b h⟩
set_option maxHeartbeats 8000000 in
set_option maxRecDepth 1000000 in
theorem text_calls (W : World) (blk off n cap : Nat) (hblk : blk < W.heap.size) (hcell : ∀ i, i < n → ∃ z : Int, W.cell? ⟨blk, off + i, none⟩ = some (.int .i64 z)) (raw : ByteArray) (hr : raw.size ≤ 100) (w : World) (hw : Below W.heap.size W w) :
    Calls Tryd.prog 5 #[.slice (some ⟨blk, off, none⟩) n cap, .string raw] w fun e w' => (∃ t : ByteArray, t.size ≤ 4000 ∧ e = .returned (.string t)) ∧ Below w.heap.size w w' := by
  obtain ⟨N, hN⟩ : ∃ N, n / 2 = N := ⟨_, rfl⟩
  have htd : (n : Int).tdiv 2 = (N : Int) := by rw [Int.tdiv_eq_ediv_of_nonneg (by omega)]; omega
  have htd2 : (n : Int) / 2 = (N : Int) := by omega
  obtain ⟨M, hM⟩ : ∃ M, wrap64 (N : Int) = M := ⟨_, rfl⟩
  go_enter Tryd.func5, Tryd.ntmps5
  go_wp2
  go_loopg [5, 6] 41 (fun gf v i wx => ∃ (j : Nat) (t : ByteArray), i = .int .i64 (j : Int) ∧ v = .string t ∧ j ≤ 40 ∧ t.size ≤ 13 * j + (if M < (j : Int) then 100 else 0) ∧ Below w.heap.size w wx ∧ 41 ≤ gf + j)
  case atStart => exact ⟨0, ⟨#[]⟩, rfl, rfl, by omega, by show 0 ≤ _; omega, Below.refl _ _, by omega⟩
  case round =>
    obtain ⟨j, t, rfl, rfl, hj, ht, hbw, hfu⟩ := hrel
    by_cases hlt : j < n
    · have hltI : (j : Int) < (n : Int) := by omega
      by_cases hj40 : j < 40
      · have hj40I : (j : Int) < 40 := by omega
        obtain ⟨g', rfl⟩ : ∃ g', gk = g' + 1 := ⟨gk - 1, by omega⟩
        obtain ⟨z, hz0⟩ := hcell j hlt
        have hwr := hw.trans (hbw.mono hw.size)
        have hz := (hwr.cell (p := ⟨blk, off + j, none⟩) hblk).trans hz0
        have hblk2 := Nat.lt_of_lt_of_le hblk hwr.size
        clear hz0 hcell
        have htb : t.size ≤ 700 := by split at ht <;> omega
        obtain ⟨q, hq⟩ : ∃ q, z.tmod 3 = q := ⟨_, rfl⟩
        have e32 : (⟨#[32]⟩ : ByteArray).size = 1 := rfl
        by_cases h2 : (j : Int) = M
        · have h2s : (j : Int) - M = 0 := by omega
          have h2b : ((j : Int) == M) = true := beq_iff_eq.2 h2
          clear h2
          obtain ⟨y0, s0, r0⟩ := sum_named t raw (by omega)
          by_cases h3 : 0 < q
          · go_wp2_with (go_at_call 9; refine (piece_calls z _).mono ?_; rintro e w2 ⟨⟨t2, ht2, rfl⟩, hb2⟩; have hz2 := (hb2.cell (p := ⟨blk, off + j, none⟩) hblk2).trans hz; obtain ⟨y1, s1, r1⟩ := sum_named y0 t2 (by omega); obtain ⟨y2, s2, r2⟩ := sum_named y1 ⟨#[32]⟩ (by rw [e32]; omega); rw [e32] at s2)
            clear hM htd htd2 hN
            go_roundg g'
            case measure => omega
            case rel => exact ⟨j + 1, _, congrArg (Value.int .i64) (by omega), rfl, by omega, by rw [if_neg (by omega)] at ht; rw [if_pos (by omega)]; omega, hbw.trans (hb2.mono hbw.size), by omega⟩
          · go_wp2_with (go_at_call 9; refine (piece_calls z _).mono ?_; rintro e w2 ⟨⟨t2, ht2, rfl⟩, hb2⟩; have hz2 := (hb2.cell (p := ⟨blk, off + j, none⟩) hblk2).trans hz; obtain ⟨y1, s1, r1⟩ := sum_named y0 t2 (by omega))
            clear hM htd htd2 hN
            go_roundg g'
            case measure => omega
            case rel => exact ⟨j + 1, _, congrArg (Value.int .i64) (by omega), rfl, by omega, by rw [if_neg (by omega)] at ht; rw [if_pos (by omega)]; omega, hbw.trans (hb2.mono hbw.size), by omega⟩
        · have h2I : ¬ (j : Int) = M := by omega
          have h2b : ((j : Int) == M) = false := beq_eq_false_iff_ne.2 h2I
          by_cases h3 : 0 < q
          · go_wp2_with (go_at_call 9; refine (piece_calls z _).mono ?_; rintro e w2 ⟨⟨t2, ht2, rfl⟩, hb2⟩; have hz2 := (hb2.cell (p := ⟨blk, off + j, none⟩) hblk2).trans hz; obtain ⟨y1, s1, r1⟩ := sum_named t t2 (by omega); obtain ⟨y2, s2, r2⟩ := sum_named y1 ⟨#[32]⟩ (by rw [e32]; omega); rw [e32] at s2)
            clear hM htd htd2 hN
            go_roundg g'
            case measure => omega
            case rel => exact ⟨j + 1, _, congrArg (Value.int .i64) (by omega), rfl, by omega, by (split at ht <;> split <;> omega), hbw.trans (hb2.mono hbw.size), by omega⟩
          · go_wp2_with (go_at_call 9; refine (piece_calls z _).mono ?_; rintro e w2 ⟨⟨t2, ht2, rfl⟩, hb2⟩; have hz2 := (hb2.cell (p := ⟨blk, off + j, none⟩) hblk2).trans hz; obtain ⟨y1, s1, r1⟩ := sum_named t t2 (by omega))
            clear hM htd htd2 hN
            go_roundg g'
            case measure => omega
            case rel => exact ⟨j + 1, _, congrArg (Value.int .i64) (by omega), rfl, by omega, by (split at ht <;> split <;> omega), hbw.trans (hb2.mono hbw.size), by omega⟩
      · have hj40I : ¬ (j : Int) < 40 := by omega
        go_wp2
        go_ret
        exact ⟨⟨t, by split at ht <;> omega, rfl⟩, hbw⟩
    · have hltI : ¬ (j : Int) < (n : Int) := by omega
      go_wp2
      go_ret
      exact ⟨⟨t, by split at ht <;> omega, rfl⟩, hbw⟩
end
end Go.Proofs.YtcanfpppllhogaaDoor.Lx
