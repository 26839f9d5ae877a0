/- What lex and the reference answer, function by function (LexTokens, part D). -/
import Derived.Test.YtcanfpppllhogaaDoorLtA
import Derived.Laws.ResultCell
import Derived.Laws.Concat
namespace Go.Proofs.YtcanfpppllhogaaDoor.Lx
open Go.RowKit Go.Proofs
open Go.Am (spanL)
noncomputable section

def blankT (s : ByteArray) : Option (Tok × Nat) :=
  if atB s 0 = 95 ∧ atB s 1 = 58 ∧ 0 < sp nameP s 2 then some ((3, s.extract 2 (2 + sp nameP s 2)), 2 + sp nameP s 2) else none
theorem atB_toList {s : ByteArray} {i : Nat} : atB s i = ((s.data.toList[i]?).map UInt8.toNat).getD 0 := rfl
theorem two_prefix (s : ByteArray) (a b : UInt8) (ha : a.toNat ≠ 0) (hb : b.toNat ≠ 0) : Lib.hasPrefix s.data.toList [a, b] = decide (atB s 0 = a.toNat ∧ atB s 1 = b.toNat) := by
  rw [atB_toList, atB_toList]
  unfold Lib.hasPrefix
  generalize s.data.toList = l
  match l with
  | [] => simp [List.isPrefixOf]; omega
  | [x] => simp [List.isPrefixOf]; omega
  | x :: y :: r =>
    rw [Bool.eq_iff_iff]
    simp only [List.isPrefixOf, Bool.and_true, Bool.and_eq_true, beq_iff_eq, decide_eq_true_eq, List.getElem?_cons_zero, List.getElem?_cons_succ, Option.map_some, Option.getD_some, UInt8.toNat_inj]
    exact ⟨fun e => ⟨e.1.symm, e.2.symm⟩, fun e => ⟨e.1.symm, e.2.symm⟩⟩
theorem one_prefix (s : ByteArray) (a : UInt8) (ha : a.toNat ≠ 0) : Lib.hasPrefix s.data.toList [a] = decide (atB s 0 = a.toNat) := by
  rw [atB_toList]
  unfold Lib.hasPrefix
  generalize s.data.toList = l
  match l with
  | [] => simp [List.isPrefixOf]; omega
  | x :: r =>
    rw [Bool.eq_iff_iff]
    simp only [List.isPrefixOf, Bool.and_true, beq_iff_eq, decide_eq_true_eq, List.getElem?_cons_zero, Option.map_some, Option.getD_some, UInt8.toNat_inj]
    exact ⟨fun e => e.symm, fun e => e.symm⟩
set_option maxHeartbeats 4000000 in
set_option maxRecDepth 1000000 in
theorem blank_ok : MOk 12 blankT := by
  intro x s l w h hs hl h0
  have hR := predTab_ok (31, nameP) (by simp [predTab]) x 0 2 s w (by omega) (by omega) h.cell
  obtain ⟨N, hN⟩ : ∃ N, spanL nameP (s.data.toList.drop 2) 0 = N := ⟨_, rfl⟩
  have hNle : N ≤ s.size - 2 := hN ▸ sp_le nameP s 2
  dsimp only at hR
  rw [hN] at hR
  unfold blankT
  rw [show sp nameP s 2 = N from hN]
  clear hN
  have hP := two_prefix s 95 58 (by decide) (by decide)
  have hx := Nat.le_of_lt h.lt
  go_enter Tryd.func12, Tryd.ntmps12
  by_cases c0 : atB s 0 = 95 ∧ atB s 1 = 58
  · have hP : Lib.hasPrefix s.data.toList (⟨#[95, 58]⟩ : ByteArray).data.toList = true := hP.trans (decide_eq_true c0)
    by_cases c1 : 0 < N
    · rw [if_pos ⟨c0.1, c0.2, c1⟩]
      have b0 : (0 : Int) < (N : Int) := by omega
      have b1 : (2 : Int) ≤ 2 + (N : Int) := by omega
      have b2 : 2 + (N : Int) ≤ (s.size : Int) := by omega
      go_wp2_with (first
        | (go_at_call 25; refine hR.mono ?_; rintro e w1 ⟨rfl, hb1⟩; have h1 := h.below hb1; have k0 := h1.cell)
        | (go_at_call 24; refine (Tryd.strings_HasPrefix s _ _).mono ?_; rintro e w2 ⟨rfl, rfl⟩; rw [hP])
        | (go_at_call 30; refine (token_callsI x (2 + N) _ _ s l _ h1 (by omega) hl _ (by omega)).mono ?_; rintro e w3 ⟨rfl, h3, hb3⟩))
      go_ret
      exact ⟨rfl, by omega, h3, (hb1.mono hx).trans hb3⟩
    · rw [if_neg (fun e => c1 e.2.2)]
      have b0 : ¬ (0 : Int) < (N : Int) := by omega
      go_wp2_with (first
        | (go_at_call 25; refine hR.mono ?_; rintro e w1 ⟨rfl, hb1⟩; have h1 := h.below hb1; have k0 := h1.cell)
        | (go_at_call 24; refine (Tryd.strings_HasPrefix s _ _).mono ?_; rintro e w2 ⟨rfl, rfl⟩; rw [hP])
        | (go_at_call 30; refine (token_callsI x (2 + N) _ _ s l _ h1 (by omega) hl _ (by omega)).mono ?_; rintro e w3 ⟨rfl, h3, hb3⟩))
      go_ret
      exact ⟨rfl, hb1⟩
  · rw [if_neg (fun e => c0 ⟨e.1, e.2.1⟩)]
    have hP : Lib.hasPrefix s.data.toList (⟨#[95, 58]⟩ : ByteArray).data.toList = false := hP.trans (decide_eq_false c0)
    by_cases c1 : (0 : Int) < (N : Int)
    · go_wp2_with (first
        | (go_at_call 25; refine hR.mono ?_; rintro e w1 ⟨rfl, hb1⟩; have h1 := h.below hb1; have k0 := h1.cell)
        | (go_at_call 24; refine (Tryd.strings_HasPrefix s _ _).mono ?_; rintro e w2 ⟨rfl, rfl⟩; rw [hP])
        | (go_at_call 30; refine (token_callsI x (2 + N) _ _ s l _ h1 (by omega) hl _ (by omega)).mono ?_; rintro e w3 ⟨rfl, h3, hb3⟩))
      go_ret
      exact ⟨rfl, hb1⟩
    · go_wp2_with (first
        | (go_at_call 25; refine hR.mono ?_; rintro e w1 ⟨rfl, hb1⟩; have h1 := h.below hb1; have k0 := h1.cell)
        | (go_at_call 24; refine (Tryd.strings_HasPrefix s _ _).mono ?_; rintro e w2 ⟨rfl, rfl⟩; rw [hP])
        | (go_at_call 30; refine (token_callsI x (2 + N) _ _ s l _ h1 (by omega) hl _ (by omega)).mono ?_; rintro e w3 ⟨rfl, h3, hb3⟩))
      go_ret
      exact ⟨rfl, hb1⟩

/-! ### bytes that are of a kind, told by a called function -/
theorem pred_calls {g : Nat} {p : Nat → Bool} (hp : Row.PredOk g p) (c : Nat) (hc : c < 256) (w : World) : Calls Tryd.prog g #[.int .i32 (c : Int)] w fun e w' => e = .returned (.bool (p c)) ∧ Below w.heap.size w w' := hp.2 c hc w
def varT (s : ByteArray) : Option (Tok × Nat) :=
  if (atB s 0 = 63 ∨ atB s 0 = 36) ∧ letterP (atB s 1) = true then some ((4, s.extract 1 (1 + sp nameP s 1)), 1 + sp nameP s 1) else none
set_option maxHeartbeats 4000000 in
set_option maxRecDepth 1000000 in
theorem variable_ok : MOk 13 varT := by
  intro x s l w h hs hl h0
  have k0 := h.cell
  have hR := fun (w : World) (h : Sc w x s l) => predTab_ok (31, nameP) (by simp [predTab]) x 0 1 s w (by omega) (by omega) h.cell
  obtain ⟨N, hN⟩ : ∃ N, spanL nameP (s.data.toList.drop 1) 0 = N := ⟨_, rfl⟩
  have hNle : N ≤ s.size - 1 := hN ▸ sp_le nameP s 1
  dsimp only at hR
  rw [hN] at hR
  unfold varT
  rw [show sp nameP s 1 = N from hN]
  clear hN
  have hx := Nat.le_of_lt h.lt
  have hBlt := atB_lt s 1
  obtain ⟨A, hA⟩ : ∃ A, atB s 0 = A := ⟨_, rfl⟩
  obtain ⟨B, hB⟩ : ∃ B, atB s 1 = B := ⟨_, rfl⟩
  rw [hB] at hBlt
  rw [hA, hB]
  go_enter Tryd.func13, Tryd.ntmps13
  cases hL : letterP B with
  | true =>
    by_cases c0 : A = 63
    · subst c0
      rw [if_pos ⟨.inl rfl, rfl⟩]
      have b1 : (1 : Int) ≤ 1 + (N : Int) := by omega
      have b2 : 1 + (N : Int) ≤ (s.size : Int) := by omega
      go_wp2_with (first
        | (go_at_call 29; refine (at_callsZ x s _ k0 _ (by omega)).mono ?_; rintro e w2 ⟨rfl, rfl⟩; first | rw [toNat0, hA] | rw [toNat1, hB])
        | (go_at_call 32; refine (pred_calls letterP_ok B hBlt _).mono ?_; rintro e w1 ⟨rfl, hb1⟩; rw [hL]; have h1 := h.below hb1; have k1 := h1.cell)
        | (go_at_call 25; refine (hR _ h1).mono ?_; rintro e w4 ⟨rfl, hb4⟩; have h4 := h1.below hb4; have k4 := h4.cell)
        | (go_at_call 30; refine (token_callsI x (1 + N) _ _ s l _ h4 (by omega) hl _ (by omega)).mono ?_; rintro e w3 ⟨rfl, h3, hb3⟩))
      go_ret
      exact ⟨rfl, by omega, h3, ((hb1.trans (hb4.mono hb1.size)).mono hx).trans hb3⟩
    · by_cases c1 : A = 36
      · subst c1
        rw [if_pos ⟨.inr rfl, rfl⟩]
        have b1 : (1 : Int) ≤ 1 + (N : Int) := by omega
        have b2 : 1 + (N : Int) ≤ (s.size : Int) := by omega
        go_wp2_with (first
          | (go_at_call 29; refine (at_callsZ x s _ k0 _ (by omega)).mono ?_; rintro e w2 ⟨rfl, rfl⟩; first | rw [toNat0, hA] | rw [toNat1, hB])
          | (go_at_call 32; refine (pred_calls letterP_ok B hBlt _).mono ?_; rintro e w1 ⟨rfl, hb1⟩; rw [hL]; have h1 := h.below hb1; have k1 := h1.cell)
          | (go_at_call 25; refine (hR _ h1).mono ?_; rintro e w4 ⟨rfl, hb4⟩; have h4 := h1.below hb4; have k4 := h4.cell)
          | (go_at_call 30; refine (token_callsI x (1 + N) _ _ s l _ h4 (by omega) hl _ (by omega)).mono ?_; rintro e w3 ⟨rfl, h3, hb3⟩))
        go_ret
        exact ⟨rfl, by omega, h3, ((hb1.trans (hb4.mono hb1.size)).mono hx).trans hb3⟩
      · rw [if_neg (fun e => e.1.elim c0 c1)]
        have c0I : ¬ (A : Int) = 63 := by omega
        have c1I : ¬ (A : Int) = 36 := by omega
        go_wp2_with (first
          | (go_at_call 29; refine (at_callsZ x s _ k0 _ (by omega)).mono ?_; rintro e w2 ⟨rfl, rfl⟩; first | rw [toNat0, hA] | rw [toNat1, hB])
          | (go_at_call 32; refine (pred_calls letterP_ok B hBlt _).mono ?_; rintro e w1 ⟨rfl, hb1⟩; rw [hL]; have h1 := h.below hb1; have k1 := h1.cell)
          | (go_at_call 25; refine (hR _ h1).mono ?_; rintro e w4 ⟨rfl, hb4⟩; have h4 := h1.below hb4; have k4 := h4.cell)
          | (go_at_call 30; refine (token_callsI x (1 + N) _ _ s l _ h4 (by omega) hl _ (by omega)).mono ?_; rintro e w3 ⟨rfl, h3, hb3⟩))
        go_ret
        exact ⟨rfl, Below.refl _ _⟩
  | false =>
    rw [if_neg (fun e => by cases e.2)]
    by_cases c0 : A = 63
    · subst c0
      go_wp2_with (first
        | (go_at_call 29; refine (at_callsZ x s _ k0 _ (by omega)).mono ?_; rintro e w2 ⟨rfl, rfl⟩; first | rw [toNat0, hA] | rw [toNat1, hB])
        | (go_at_call 32; refine (pred_calls letterP_ok B hBlt _).mono ?_; rintro e w1 ⟨rfl, hb1⟩; rw [hL]; have h1 := h.below hb1; have k1 := h1.cell)
        | (go_at_call 25; refine (hR _ h1).mono ?_; rintro e w4 ⟨rfl, hb4⟩; have h4 := h1.below hb4; have k4 := h4.cell)
        | (go_at_call 30; refine (token_callsI x (1 + N) _ _ s l _ h4 (by omega) hl _ (by omega)).mono ?_; rintro e w3 ⟨rfl, h3, hb3⟩))
      go_ret
      exact ⟨rfl, hb1⟩
    · by_cases c1 : A = 36
      · subst c1
        go_wp2_with (first
          | (go_at_call 29; refine (at_callsZ x s _ k0 _ (by omega)).mono ?_; rintro e w2 ⟨rfl, rfl⟩; first | rw [toNat0, hA] | rw [toNat1, hB])
          | (go_at_call 32; refine (pred_calls letterP_ok B hBlt _).mono ?_; rintro e w1 ⟨rfl, hb1⟩; rw [hL]; have h1 := h.below hb1; have k1 := h1.cell)
          | (go_at_call 25; refine (hR _ h1).mono ?_; rintro e w4 ⟨rfl, hb4⟩; have h4 := h1.below hb4; have k4 := h4.cell)
          | (go_at_call 30; refine (token_callsI x (1 + N) _ _ s l _ h4 (by omega) hl _ (by omega)).mono ?_; rintro e w3 ⟨rfl, h3, hb3⟩))
        go_ret
        exact ⟨rfl, hb1⟩
      · have c0I : ¬ (A : Int) = 63 := by omega
        have c1I : ¬ (A : Int) = 36 := by omega
        go_wp2_with (first
          | (go_at_call 29; refine (at_callsZ x s _ k0 _ (by omega)).mono ?_; rintro e w2 ⟨rfl, rfl⟩; first | rw [toNat0, hA] | rw [toNat1, hB])
          | (go_at_call 32; refine (pred_calls letterP_ok B hBlt _).mono ?_; rintro e w1 ⟨rfl, hb1⟩; rw [hL]; have h1 := h.below hb1; have k1 := h1.cell)
          | (go_at_call 25; refine (hR _ h1).mono ?_; rintro e w4 ⟨rfl, hb4⟩; have h4 := h1.below hb4; have k4 := h4.cell)
          | (go_at_call 30; refine (token_callsI x (1 + N) _ _ s l _ h4 (by omega) hl _ (by omega)).mono ?_; rintro e w3 ⟨rfl, h3, hb3⟩))
        go_ret
        exact ⟨rfl, Below.refl _ _⟩
end
end Go.Proofs.YtcanfpppllhogaaDoor.Lx
