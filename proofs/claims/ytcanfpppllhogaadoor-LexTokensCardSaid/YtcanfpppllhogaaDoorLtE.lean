/- What lex and the reference answer, function by function (LexTokens, part E). -/
import Derived.Test.YtcanfpppllhogaaDoorLtD
import Derived.Laws.ResultCell
import Derived.Laws.Concat
namespace Go.Proofs.YtcanfpppllhogaaDoor.Lx
open Go.RowKit Go.Proofs
open Go.Am (spanL)
noncomputable section

def wordT (s : ByteArray) : Option (Tok × Nat) :=
  if letterP (atB s 0) = true then some ((8, s.extract 0 (sp nameP s 0)), sp nameP s 0) else none
set_option maxHeartbeats 4000000 in
set_option maxRecDepth 1000000 in
theorem word_ok : MOk 18 wordT := by
  intro x s l w h hs hl h0
  have k0 := h.cell
  have hR := fun (w : World) (h : Sc w x s l) => predTab_ok (31, nameP) (by simp [predTab]) x 0 0 s w (by omega) (by omega) h.cell
  obtain ⟨N, hN⟩ : ∃ N, spanL nameP (s.data.toList.drop 0) 0 = N := ⟨_, rfl⟩
  have hNle : N ≤ s.size - 0 := hN ▸ sp_le nameP s 0
  dsimp only at hR
  rw [hN] at hR
  unfold wordT
  rw [show sp nameP s 0 = N from hN]
  clear hN
  have hx := Nat.le_of_lt h.lt
  have hAlt := atB_lt s 0
  obtain ⟨A, hA⟩ : ∃ A, atB s 0 = A := ⟨_, rfl⟩
  rw [hA] at hAlt
  rw [hA]
  have b1 : (0 : Int) ≤ (N : Int) := by omega
  have b2 : (N : Int) ≤ (s.size : Int) := by omega
  go_enter Tryd.func18, Tryd.ntmps18
  cases hL : letterP A with
  | true =>
    rw [if_pos rfl]
    · go_wp2_with (first
        | (go_at_call 29; refine (at_callsZ x s _ k0 _ (by omega)).mono ?_; rintro e w2 ⟨rfl, rfl⟩; rw [toNat0, hA])
        | (go_at_call 32; refine (pred_calls letterP_ok A hAlt _).mono ?_; rintro e w1 ⟨rfl, hb1⟩; rw [hL]; have h1 := h.below hb1; have k1 := h1.cell)
        | (go_at_call 25; refine (hR _ h1).mono ?_; rintro e w4 ⟨rfl, hb4⟩; have h4 := h1.below hb4; have k4 := h4.cell)
        | (go_at_call 30; refine (token_callsI x N _ _ s l _ h4 (by omega) hl _ (by omega)).mono ?_; rintro e w3 ⟨rfl, h3, hb3⟩))
      go_ret
      exact ⟨rfl, by omega, h3, ((hb1.trans (hb4.mono hb1.size)).mono hx).trans hb3⟩
  | false =>
    rw [if_neg (by simp)]
    · go_wp2_with (first
        | (go_at_call 29; refine (at_callsZ x s _ k0 _ (by omega)).mono ?_; rintro e w2 ⟨rfl, rfl⟩; rw [toNat0, hA])
        | (go_at_call 32; refine (pred_calls letterP_ok A hAlt _).mono ?_; rintro e w1 ⟨rfl, hb1⟩; rw [hL]; have h1 := h.below hb1; have k1 := h1.cell)
        | (go_at_call 25; refine (hR _ h1).mono ?_; rintro e w4 ⟨rfl, hb4⟩; have h4 := h1.below hb4; have k4 := h4.cell)
        | (go_at_call 30; refine (token_callsI x N _ _ s l _ h4 (by omega) hl _ (by omega)).mono ?_; rintro e w3 ⟨rfl, h3, hb3⟩))
      go_ret
      exact ⟨rfl, hb1⟩

def numLen (s : ByteArray) : Nat := if atB s (sp digitP s 0) = 46 ∧ digitP (atB s (sp digitP s 0 + 1)) = true then sp digitP s 0 + (1 + sp digitP s (sp digitP s 0 + 1)) else sp digitP s 0
def numT (s : ByteArray) : Option (Tok × Nat) :=
  if sp digitP s 0 = 0 then none else some ((7, s.extract 0 (numLen s)), numLen s)
set_option maxHeartbeats 4000000 in
set_option maxRecDepth 1000000 in
theorem number_ok : MOk 16 numT := by
  intro x s l w h hs hl h0
  have k0 := h.cell
  have hR0 := predTab_ok (36, digitP) (by simp [predTab]) x 0 0 s w (by omega) (by omega) h.cell
  obtain ⟨N, hN⟩ : ∃ N, spanL digitP (s.data.toList.drop 0) 0 = N := ⟨_, rfl⟩
  have hNle : N ≤ s.size - 0 := hN ▸ sp_le digitP s 0
  obtain ⟨M, hM⟩ : ∃ M, spanL digitP (s.data.toList.drop (N + 1)) 0 = M := ⟨_, rfl⟩
  have hMle : M ≤ s.size - (N + 1) := hM ▸ sp_le digitP s (N + 1)
  have hR1 : ∀ (w : World), Sc w x s l → ∀ i : Int, i = ((N + 1 : Nat) : Int) → Calls Tryd.prog 25 #[.pointer (some ⟨x, 0, none⟩), .int .i64 i, .func (.func 36) #[] #[]] w fun e w' => e = .returned (.int .i64 (M : Nat)) ∧ Below w.heap.size w w' := by
    intro w h i e
    subst e
    have := predTab_ok (36, digitP) (by simp [predTab]) x 0 (N + 1) s w (by omega) (by omega) h.cell
    dsimp only at this
    rw [hM] at this
    exact this
  dsimp only at hR0
  rw [hN] at hR0
  unfold numT numLen
  rw [show sp digitP s 0 = N from hN, show sp digitP s (N + 1) = M from hM]
  clear hN hM
  have hx := Nat.le_of_lt h.lt
  have hBlt := atB_lt s (N + 1)
  obtain ⟨A, hA⟩ : ∃ A, atB s N = A := ⟨_, rfl⟩
  obtain ⟨B, hB⟩ : ∃ B, atB s (N + 1) = B := ⟨_, rfl⟩
  rw [hB] at hBlt
  rw [hA, hB]
  have b1 : (0 : Int) ≤ (N : Int) := by omega
  have b2 : (N : Int) ≤ (s.size : Int) := by omega
  go_enter Tryd.func16, Tryd.ntmps16
  by_cases hz : N = 0
  · rw [if_pos hz]
    subst hz
    · go_wp2_with (first
        | (go_at_call 25; refine (hR1 _ h5 _ (by omega)).mono ?_; rintro e w4 ⟨rfl, hb4⟩; have h4 := h5.below hb4; have k4 := h4.cell)
        | (go_at_call 25; refine hR0.mono ?_; rintro e w1 ⟨rfl, hb1⟩; have h1 := h.below hb1; have k1 := h1.cell)
        | (go_at_call 29; refine (at_callsZ x s _ (by assumption) _ (by omega)).mono ?_; rintro e w2 ⟨rfl, rfl⟩; first | rw [show ((N : Int)).toNat = N by omega, hA] | rw [show ((N : Int) + 1).toNat = N + 1 by omega, hB])
        | (go_at_call 36; refine (pred_calls digitP_ok B hBlt _).mono ?_; rintro e w5 ⟨rfl, hb5⟩; rw [hL]; have h5 := h1.below hb5; have k5 := h5.cell)
        | (go_at_call 30; refine (token_callsI x (N + (1 + M)) _ _ s l _ h4 (by omega) hl _ (by omega)).mono ?_; rintro e w3 ⟨rfl, h3, hb3⟩)
        | (go_at_call 30; refine (token_callsI x N _ _ s l _ (by assumption) (by omega) hl _ (by omega)).mono ?_; rintro e w3 ⟨rfl, h3, hb3⟩))
      go_ret
      exact ⟨rfl, hb1⟩
  · rw [if_neg hz]
    have hzI : ¬ (N : Int) = 0 := by omega
    by_cases c0 : A = 46
    · subst c0
      cases hL : digitP B with
      | true =>
        have hlt : N + 1 < s.size := by
          by_cases hx : N + 1 < s.size
          · exact hx
          · rw [atB_out hx] at hB; subst hB; cases hL
        rw [if_pos ⟨rfl, rfl⟩]
        have t2 : (0 : Int) ≤ (N : Int) + (1 + (M : Int)) := by omega
        have t3 : (N : Int) + (1 + (M : Int)) ≤ (s.size : Int) := by omega
        go_wp2_with (first
          | (go_at_call 25; refine (hR1 _ h5 _ (by omega)).mono ?_; rintro e w4 ⟨rfl, hb4⟩; have h4 := h5.below hb4; have k4 := h4.cell)
          | (go_at_call 25; refine hR0.mono ?_; rintro e w1 ⟨rfl, hb1⟩; have h1 := h.below hb1; have k1 := h1.cell)
          | (go_at_call 29; refine (at_callsZ x s _ (by assumption) _ (by omega)).mono ?_; rintro e w2 ⟨rfl, rfl⟩; first | rw [show ((N : Int)).toNat = N by omega, hA] | rw [show ((N : Int) + 1).toNat = N + 1 by omega, hB])
          | (go_at_call 36; refine (pred_calls digitP_ok B hBlt _).mono ?_; rintro e w5 ⟨rfl, hb5⟩; rw [hL]; have h5 := h1.below hb5; have k5 := h5.cell)
          | (go_at_call 30; refine (token_callsI x (N + (1 + M)) _ _ s l _ h4 (by omega) hl _ (by omega)).mono ?_; rintro e w3 ⟨rfl, h3, hb3⟩)
          | (go_at_call 30; refine (token_callsI x N _ _ s l _ (by assumption) (by omega) hl _ (by omega)).mono ?_; rintro e w3 ⟨rfl, h3, hb3⟩))
        go_ret
        exact ⟨rfl, by omega, h3, (((hb1.trans (hb5.mono hb1.size)).trans (hb4.mono (Nat.le_trans hb1.size hb5.size))).mono hx).trans hb3⟩
      | false =>
        rw [if_neg (fun e => by cases e.2)]
        go_wp2_with (first
          | (go_at_call 25; refine (hR1 _ h5 _ (by omega)).mono ?_; rintro e w4 ⟨rfl, hb4⟩; have h4 := h5.below hb4; have k4 := h4.cell)
          | (go_at_call 25; refine hR0.mono ?_; rintro e w1 ⟨rfl, hb1⟩; have h1 := h.below hb1; have k1 := h1.cell)
          | (go_at_call 29; refine (at_callsZ x s _ (by assumption) _ (by omega)).mono ?_; rintro e w2 ⟨rfl, rfl⟩; first | rw [show ((N : Int)).toNat = N by omega, hA] | rw [show ((N : Int) + 1).toNat = N + 1 by omega, hB])
          | (go_at_call 36; refine (pred_calls digitP_ok B hBlt _).mono ?_; rintro e w5 ⟨rfl, hb5⟩; rw [hL]; have h5 := h1.below hb5; have k5 := h5.cell)
          | (go_at_call 30; refine (token_callsI x (N + (1 + M)) _ _ s l _ h4 (by omega) hl _ (by omega)).mono ?_; rintro e w3 ⟨rfl, h3, hb3⟩)
          | (go_at_call 30; refine (token_callsI x N _ _ s l _ (by assumption) (by omega) hl _ (by omega)).mono ?_; rintro e w3 ⟨rfl, h3, hb3⟩))
        go_ret
        exact ⟨rfl, by omega, h3, (((hb1.trans (hb5.mono hb1.size))).mono hx).trans hb3⟩
    · rw [if_neg (fun e => c0 e.1)]
      have c0I : ¬ (A : Int) = 46 := by omega
      go_wp2_with (first
        | (go_at_call 25; refine (hR1 _ h5 _ (by omega)).mono ?_; rintro e w4 ⟨rfl, hb4⟩; have h4 := h5.below hb4; have k4 := h4.cell)
        | (go_at_call 25; refine hR0.mono ?_; rintro e w1 ⟨rfl, hb1⟩; have h1 := h.below hb1; have k1 := h1.cell)
        | (go_at_call 29; refine (at_callsZ x s _ (by assumption) _ (by omega)).mono ?_; rintro e w2 ⟨rfl, rfl⟩; first | rw [show ((N : Int)).toNat = N by omega, hA] | rw [show ((N : Int) + 1).toNat = N + 1 by omega, hB])
        | (go_at_call 36; refine (pred_calls digitP_ok B hBlt _).mono ?_; rintro e w5 ⟨rfl, hb5⟩; rw [hL]; have h5 := h1.below hb5; have k5 := h5.cell)
        | (go_at_call 30; refine (token_callsI x (N + (1 + M)) _ _ s l _ h4 (by omega) hl _ (by omega)).mono ?_; rintro e w3 ⟨rfl, h3, hb3⟩)
        | (go_at_call 30; refine (token_callsI x N _ _ s l _ (by assumption) (by omega) hl _ (by omega)).mono ?_; rintro e w3 ⟨rfl, h3, hb3⟩))
      go_ret
      exact ⟨rfl, by omega, h3, (hb1.mono hx).trans hb3⟩
end
end Go.Proofs.YtcanfpppllhogaaDoor.Lx
