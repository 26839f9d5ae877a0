/- What lex and the reference answer, function by function (LexTokens, part LA). -/
import Derived.Test.YtcanfpppllhogaaDoorLtZ
import Derived.Laws.ResultCell
import Derived.Laws.Concat
namespace Go.Proofs.YtcanfpppllhogaaDoor.Lx
open Go.RowKit Go.Proofs
open Go.Am (spanL)
noncomputable section

/-! ### two rows of the same tokens -/
theorem cellsT_at {l : List Tok} {j : Nat} (hj : j < l.length) : (cellsT l)[j * 2]? = some (.int .i64 l[j].1) ∧ (cellsT l)[j * 2 + 1]? = some (.string l[j].2) := by
  induction l generalizing j with
  | nil => exact absurd hj (Nat.not_lt_zero _)
  | cons p l ih =>
    cases j with
    | zero => exact ⟨rfl, rfl⟩
    | succ j =>
      have := ih (j := j) (by simpa using hj)
      have e : cellsT (p :: l) = Value.int .i64 p.1 :: .string p.2 :: cellsT l := rfl
      rw [e, show (j + 1) * 2 = j * 2 + 1 + 1 by omega]
      simpa using this
theorem own_at {w : World} {B e g cap : Nat} {l : List Tok} (h : w.ownsRow B e 2 (.slice (some ⟨g, 0, none⟩) l.length cap) l.length (cellsT l)) {j : Nat} (hj : j < l.length) :
    w.cell? ⟨g, j * 2, none⟩ = some (.int .i64 l[j].1) ∧ w.cell? ⟨g, j * 2 + 1, none⟩ = some (.string l[j].2) := by
  have hc := own_cells h
  have ht := cellsT_at hj
  have a0 := hc _ _ ht.1
  have a1 := hc _ _ ht.2
  rw [Addr.add_lit] at a0 a1
  exact ⟨by simpa using a0, by simpa using a1⟩
set_option maxHeartbeats 4000000 in
set_option maxRecDepth 1000000 in
theorem same_some (l : List Tok) (w : World) {B1 B2 g1 g2 c1 c2 : Nat} (h1 : w.ownsRow B1 35 2 (.slice (some ⟨g1, 0, none⟩) l.length c1) l.length (cellsT l)) (h2 : w.ownsRow B2 35 2 (.slice (some ⟨g2, 0, none⟩) l.length c2) l.length (cellsT l)) (hl : l.length ≤ 4000) :
    Calls Tryd.prog 8 #[.slice (some ⟨g1, 0, none⟩) l.length c1, .slice (some ⟨g2, 0, none⟩) l.length c2] w fun e w' => e = .returned (.bool true) ∧ Below w.heap.size w w' := by
  go_enter Tryd.func8, Tryd.ntmps8
  go_wp2
  go_loopg [5] (l.length + 1) (fun gf i wx => ∃ j : Nat, i = .int .i64 (j : Int) ∧ j ≤ l.length ∧ Below w.heap.size w wx ∧ l.length < gf + j)
  case atStart => exact ⟨0, rfl, by omega, Below.refl _ _, by omega⟩
  case round =>
    obtain ⟨j, rfl, hj, hbw, hfu⟩ := hrel
    have hd : Below wr.heap.size wr wr.drew := ⟨rfl, rfl, rfl, Nat.le_refl _, fun _ _ => rfl⟩
    have hbw' := hbw.trans (hd.mono hbw.size)
    by_cases hlt : j < l.length
    · have hltI : (j : Int) < (l.length : Int) := by omega
      obtain ⟨g', rfl⟩ : ∃ g', gk = g' + 1 := ⟨gk - 1, by omega⟩
      obtain ⟨a0, a1⟩ := own_at (own_below h1 hbw') hlt
      obtain ⟨b0, b1⟩ := own_at (own_below h2 hbw') hlt
      go_wp2
      go_region
      all_goals go_wp2
      go_roundg g'
      case measure => omega
      case rel => exact ⟨j + 1, congrArg (Value.int .i64) (by omega), by omega, hbw', by omega⟩
    · have hltI : ¬ (j : Int) < (l.length : Int) := by omega
      go_wp2
      go_ret
      exact ⟨rfl, hbw⟩
set_option maxHeartbeats 4000000 in
set_option maxRecDepth 1000000 in
theorem same_none (w : World) (a1 a2 : Option Addr) (c1 c2 : Nat) :
    Calls Tryd.prog 8 #[.slice a1 0 c1, .slice a2 0 c2] w fun e w' => e = .returned (.bool true) ∧ Below w.heap.size w w' := by
  go_enter Tryd.func8, Tryd.ntmps8
  go_wp2
  go_loopg [5] 1 (fun gf i wx => i = .int .i64 0 ∧ Below w.heap.size w wx ∧ 0 < gf)
  case atStart => exact ⟨rfl, Below.refl _ _, by omega⟩
  case round =>
    obtain ⟨rfl, hbw, hfu⟩ := hrel
    go_wp2
    go_ret
    exact ⟨rfl, hbw⟩
theorem same_calls (l : List Tok) (w : World) {B1 B2 : Nat} {va vb : Value} (h1 : w.ownsRow B1 35 2 va l.length (cellsT l)) (h2 : w.ownsRow B2 35 2 vb l.length (cellsT l)) (hl : l.length ≤ 4000) :
    Calls Tryd.prog 8 #[va, vb] w fun e w' => e = .returned (.bool true) ∧ Below w.heap.size w w' := by
  rcases h1.2 with ⟨rfl, e1⟩ | ⟨g1, c1, _, rfl, _⟩ <;> rcases h2.2 with ⟨rfl, e2⟩ | ⟨g2, c2, _, rfl, _⟩
  · exact same_none w none none 0 0
  · rw [e1]; exact same_none w _ _ _ _
  · rw [e2]; exact same_none w _ _ _ _
  · exact same_some l w h1 h2 hl
end
end Go.Proofs.YtcanfpppllhogaaDoor.Lx
