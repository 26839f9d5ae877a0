/- What lex and the reference answer, function by function (LexTokens, part F). -/
import Derived.Test.YtcanfpppllhogaaDoorLtE
import Derived.Laws.ResultCell
import Derived.Laws.Concat
namespace Go.Proofs.YtcanfpppllhogaaDoor.Lx
open Go.RowKit Go.Proofs
open Go.Am (spanL)
noncomputable section

/-- how far dots at the end are left out. -/
def bd (s : ByteArray) : Nat → Nat
  | 0 => 0
  | m + 1 => if atB s m = 46 then bd s m else m + 1
theorem bd_le (s : ByteArray) : ∀ n, bd s n ≤ n := by
  intro n
  induction n with
  | zero => exact Nat.le_refl _
  | succ m ih => unfold bd; split <;> omega
def nameAt (s : ByteArray) : Nat := if letterP (atB s 0) = true then sp nameAP s 0 else 0
def nameEnd (s : ByteArray) : Nat := nameAt s + 1 + sp nameBP s (nameAt s + 1)
def nameT (s : ByteArray) : Option (Tok × Nat) :=
  if atB s (nameAt s) = 58 then some ((2, s.extract 0 (bd s (nameEnd s))), bd s (nameEnd s)) else none
theorem bd_stop {s : ByteArray} {m : Nat} (h : atB s m ≠ 46) : bd s (m + 1) = m + 1 := by rw [bd, if_neg h]
theorem bd_go {s : ByteArray} {m : Nat} (h : atB s m = 46) : bd s (m + 1) = bd s m := by rw [bd, if_pos h]
set_option maxHeartbeats 4000000 in
set_option maxRecDepth 1000000 in
theorem name_okA (x : Nat) (s : ByteArray) (l : List Tok) (w : World) (h : Sc w x s l) (hs : s.size ≤ 9000000) (hl : l.length ≤ 1000000) (A B K M : Nat) (hA : atB s 0 = A) (hAlt : A < 256) (hB : atB s K = B)
    (hL : letterP A = false) (hK : K = 0) (hM : spanL nameBP (s.data.toList.drop (K + 1)) 0 = M) :
    Calls Tryd.prog 17 #[.pointer (some ⟨x, 0, none⟩)] w fun e w' =>
      if B = 58 then e = .returned (.bool true) ∧ After w x s l (some ((2, s.extract 0 (bd s (K + 1 + M))), bd s (K + 1 + M))) w' else e = .returned (.bool false) ∧ After w x s l none w' := by
  have k0 := h.cell
  have hMle : M ≤ s.size - (K + 1) := hM ▸ sp_le nameBP s (K + 1)
  have hR1 : ∀ (w : World), Sc w x s l → ∀ i : Int, i = ((K + 1 : Nat) : Int) → Calls Tryd.prog 25 #[.pointer (some ⟨x, 0, none⟩), .int .i64 i, .func (.func 38) #[] #[]] w fun e w' => e = .returned (.int .i64 (M : Nat)) ∧ Below w.heap.size w w' := by
    intro w h i e
    subst e
    have := predTab_ok (38, nameBP) (by simp [predTab]) x 0 (K + 1) s w (by omega) (by omega) h.cell
    dsimp only at this
    rw [hM] at this
    exact this
  have hx := Nat.le_of_lt h.lt
  go_enter Tryd.func17, Tryd.ntmps17
  by_cases c0 : B = 58
  · simp only [c0, if_true]
    subst c0
    have hlt : K < s.size := by
      by_cases hx : K < s.size
      · exact hx
      · rw [atB_out hx] at hB; omega
    go_wp2_with (first
      | (go_at_call 29; refine (at_callsZ x s _ k0 _ (by omega)).mono ?_; rintro e w2 ⟨rfl, rfl⟩; rw [toNat0, hA])
      | (go_at_call 29; refine (at_callsZ x s _ k1 _ (by omega)).mono ?_; rintro e w2 ⟨rfl, rfl⟩; rw [show Int.toNat 0 = K by omega, hB])
      | (go_at_call 32; refine (pred_calls letterP_ok A hAlt _).mono ?_; rintro e w1 ⟨rfl, hb1⟩; rw [hL]; have h1 := h.below hb1; have k1 := h1.cell; clear k0)
      | (go_at_call 25; refine (hR1 _ h1 _ (by omega)).mono ?_; rintro e w5 ⟨rfl, hb5⟩; have h5 := h1.below hb5; have k5 := h5.cell))
    have hb5' := hb1.trans (hb5.mono hb1.size)
    · go_loopg [3] (K + 1 + M + 1) (fun gf i wx => ∃ m : Nat, i = .int .i64 ((m : Int) + 1) ∧ K ≤ m ∧ m + 1 ≤ K + 1 + M ∧ bd s (m + 1) = bd s (K + 1 + M) ∧ wx = w5 ∧ m + 1 ≤ gf)
      case atStart => exact ⟨K + M, by congr 1; omega, by omega, by omega, by rw [show K + M + 1 = K + 1 + M by omega], rfl, by omega⟩
      case round =>
        obtain ⟨m, rfl, hm1, hm2, hbd, rfl, hfu⟩ := hrel
        have hml : m < s.size := by omega
        have hmI : (m : Int) < (s.size : Int) := by omega
        by_cases c : s[m].toNat = 46
        · have hne : m ≠ K := fun e => by subst e; rw [atB_in hml] at hB; omega
          have cI : (s[m].toNat : Int) = 46 := by omega
          obtain ⟨g', rfl⟩ : ∃ g', gk = g' + 1 := ⟨gk - 1, by omega⟩
          obtain ⟨m', rfl⟩ : ∃ m', m = m' + 1 := ⟨m - 1, by omega⟩
          go_wp2
          go_roundg g'
          case measure => omega
          case rel => exact ⟨m', by simp, by omega, by omega, (bd_go (by rw [atB_in hml]; exact c)).symm.trans hbd, rfl, by omega⟩
        · have cI : ¬ (s[m].toNat : Int) = 46 := by omega
          have b1 : (0 : Int) ≤ (m : Int) + 1 := by omega
          have b2 : (m : Int) + 1 ≤ (s.size : Int) := by omega
          go_wp2_with (go_at_call 30; refine (token_callsI x (m + 1) _ _ s l _ h5 (by omega) hl _ (by omega)).mono ?_; rintro e w3 ⟨rfl, h3, hb3⟩)
          go_ret
          rw [← hbd, bd_stop (by rw [atB_in hml]; exact c)]
          exact ⟨rfl, by omega, h3, (hb5'.mono hx).trans hb3⟩
  · simp only [c0, if_false]
    have c0I : ¬ (B : Int) = 58 := by omega
    go_wp2_with (first
      | (go_at_call 29; refine (at_callsZ x s _ k0 _ (by omega)).mono ?_; rintro e w2 ⟨rfl, rfl⟩; rw [toNat0, hA])
      | (go_at_call 29; refine (at_callsZ x s _ k1 _ (by omega)).mono ?_; rintro e w2 ⟨rfl, rfl⟩; rw [show Int.toNat 0 = K by omega, hB])
      | (go_at_call 32; refine (pred_calls letterP_ok A hAlt _).mono ?_; rintro e w1 ⟨rfl, hb1⟩; rw [hL]; have h1 := h.below hb1; have k1 := h1.cell; clear k0))
    go_ret
    exact ⟨rfl, hb1⟩
set_option maxHeartbeats 4000000 in
set_option maxRecDepth 1000000 in
theorem name_okB (x : Nat) (s : ByteArray) (l : List Tok) (w : World) (h : Sc w x s l) (hs : s.size ≤ 9000000) (hl : l.length ≤ 1000000) (A B K M : Nat) (hA : atB s 0 = A) (hAlt : A < 256) (hB : atB s K = B)
    (hL : letterP A = true) (hK : spanL nameAP (s.data.toList.drop 0) 0 = K) (hM : spanL nameBP (s.data.toList.drop (K + 1)) 0 = M) :
    Calls Tryd.prog 17 #[.pointer (some ⟨x, 0, none⟩)] w fun e w' =>
      if B = 58 then e = .returned (.bool true) ∧ After w x s l (some ((2, s.extract 0 (bd s (K + 1 + M))), bd s (K + 1 + M))) w' else e = .returned (.bool false) ∧ After w x s l none w' := by
  have k0 := h.cell
  have hKle : K ≤ s.size - 0 := hK ▸ sp_le nameAP s 0
  have hMle : M ≤ s.size - (K + 1) := hM ▸ sp_le nameBP s (K + 1)
  have hR1 : ∀ (w : World), Sc w x s l → ∀ i : Int, i = ((K + 1 : Nat) : Int) → Calls Tryd.prog 25 #[.pointer (some ⟨x, 0, none⟩), .int .i64 i, .func (.func 38) #[] #[]] w fun e w' => e = .returned (.int .i64 (M : Nat)) ∧ Below w.heap.size w w' := by
    intro w h i e
    subst e
    have := predTab_ok (38, nameBP) (by simp [predTab]) x 0 (K + 1) s w (by omega) (by omega) h.cell
    dsimp only at this
    rw [hM] at this
    exact this
  have hx := Nat.le_of_lt h.lt
  have hR0 : ∀ (w : World), Sc w x s l → Calls Tryd.prog 25 #[.pointer (some ⟨x, 0, none⟩), .int .i64 0, .func (.func 37) #[] #[]] w fun e w' => e = .returned (.int .i64 (K : Nat)) ∧ Below w.heap.size w w' := by
    intro w h
    have := predTab_ok (37, nameAP) (by simp [predTab]) x 0 0 s w (by omega) (by omega) h.cell
    dsimp only at this
    rw [hK] at this
    exact this
  go_enter Tryd.func17, Tryd.ntmps17
  by_cases c0 : B = 58
  · simp only [c0, if_true]
    subst c0
    have hlt : K < s.size := by
      by_cases hx : K < s.size
      · exact hx
      · rw [atB_out hx] at hB; omega
    go_wp2_with (first
      | (go_at_call 29; refine (at_callsZ x s _ k0 _ (by omega)).mono ?_; rintro e w2 ⟨rfl, rfl⟩; rw [toNat0, hA])
      | (go_at_call 29; refine (at_callsZ x s _ k4 _ (by omega)).mono ?_; rintro e w2 ⟨rfl, rfl⟩; rw [show (K : Int).toNat = K by omega, hB])
      | (go_at_call 32; refine (pred_calls letterP_ok A hAlt _).mono ?_; rintro e w1 ⟨rfl, hb1⟩; rw [hL]; have h1 := h.below hb1; have k1 := h1.cell; clear k0)
      | (go_at_call 25; refine (hR1 _ h4 _ (by omega)).mono ?_; rintro e w5 ⟨rfl, hb5⟩; have h5 := h4.below hb5; have k5 := h5.cell)
      | (go_at_call 25; refine (hR0 _ h1).mono ?_; rintro e w4 ⟨rfl, hb4⟩; have h4 := h1.below hb4; have k4 := h4.cell; clear k1))
    have hb5' := hb1.trans ((hb4.trans (hb5.mono hb4.size)).mono hb1.size)
    · go_loopg [3] (K + 1 + M + 1) (fun gf i wx => ∃ m : Nat, i = .int .i64 ((m : Int) + 1) ∧ K ≤ m ∧ m + 1 ≤ K + 1 + M ∧ bd s (m + 1) = bd s (K + 1 + M) ∧ wx = w5 ∧ m + 1 ≤ gf)
      case atStart => exact ⟨K + M, by congr 1; omega, by omega, by omega, by rw [show K + M + 1 = K + 1 + M by omega], rfl, by omega⟩
      case round =>
        obtain ⟨m, rfl, hm1, hm2, hbd, rfl, hfu⟩ := hrel
        have hml : m < s.size := by omega
        have hmI : (m : Int) < (s.size : Int) := by omega
        by_cases c : s[m].toNat = 46
        · have hne : m ≠ K := fun e => by subst e; rw [atB_in hml] at hB; omega
          have cI : (s[m].toNat : Int) = 46 := by omega
          obtain ⟨g', rfl⟩ : ∃ g', gk = g' + 1 := ⟨gk - 1, by omega⟩
          obtain ⟨m', rfl⟩ : ∃ m', m = m' + 1 := ⟨m - 1, by omega⟩
          go_wp2
          go_roundg g'
          case measure => omega
          case rel => exact ⟨m', by simp, by omega, by omega, (bd_go (by rw [atB_in hml]; exact c)).symm.trans hbd, rfl, by omega⟩
        · have cI : ¬ (s[m].toNat : Int) = 46 := by omega
          have b1 : (0 : Int) ≤ (m : Int) + 1 := by omega
          have b2 : (m : Int) + 1 ≤ (s.size : Int) := by omega
          go_wp2_with (go_at_call 30; refine (token_callsI x (m + 1) _ _ s l _ h5 (by omega) hl _ (by omega)).mono ?_; rintro e w3 ⟨rfl, h3, hb3⟩)
          go_ret
          rw [← hbd, bd_stop (by rw [atB_in hml]; exact c)]
          exact ⟨rfl, by omega, h3, (hb5'.mono hx).trans hb3⟩
  · simp only [c0, if_false]
    have c0I : ¬ (B : Int) = 58 := by omega
    go_wp2_with (first
      | (go_at_call 29; refine (at_callsZ x s _ k0 _ (by omega)).mono ?_; rintro e w2 ⟨rfl, rfl⟩; rw [toNat0, hA])
      | (go_at_call 29; refine (at_callsZ x s _ k4 _ (by omega)).mono ?_; rintro e w2 ⟨rfl, rfl⟩; rw [show (K : Int).toNat = K by omega, hB])
      | (go_at_call 32; refine (pred_calls letterP_ok A hAlt _).mono ?_; rintro e w1 ⟨rfl, hb1⟩; rw [hL]; have h1 := h.below hb1; have k1 := h1.cell; clear k0)
      | (go_at_call 25; refine (hR0 _ h1).mono ?_; rintro e w4 ⟨rfl, hb4⟩; have h4 := h1.below hb4; have k4 := h4.cell; clear k1))
    go_ret
    exact ⟨rfl, hb1.trans (hb4.mono hb1.size)⟩
theorem name_ok : MOk 17 nameT := by
  intro x s l w h hs hl h0
  have go : ∀ K M : Nat, (if atB s K = 58 then (some (((2 : Int), s.extract 0 (bd s (K + 1 + M))), bd s (K + 1 + M)) : Option (Tok × Nat)) else none) = nameT s →
      (∀ (e : Ending) (w' : World), (if atB s K = 58 then e = .returned (.bool true) ∧ After w x s l (some ((2, s.extract 0 (bd s (K + 1 + M))), bd s (K + 1 + M))) w' else e = .returned (.bool false) ∧ After w x s l none w') → e = .returned (.bool (nameT s).isSome) ∧ After w x s l (nameT s) w') := by
    intro K M hn e w' hh
    rw [← hn]
    split at hh
    · rename_i c; rw [if_pos c]; exact hh
    · rename_i c; rw [if_neg c]; exact hh
  cases hL : letterP (atB s 0) with
  | false =>
    refine (name_okA x s l w h hs hl _ _ 0 _ rfl (atB_lt s 0) rfl hL rfl rfl).mono (fun e w' hh => ?_)
    refine go 0 _ ?_ e w' hh
    unfold nameT nameEnd nameAt
    rw [hL]; rfl
  | true =>
    refine (name_okB x s l w h hs hl _ _ _ _ rfl (atB_lt s 0) rfl hL rfl rfl).mono (fun e w' hh => ?_)
    refine go _ _ ?_ e w' hh
    unfold nameT nameEnd nameAt
    rw [hL]; rfl
end
end Go.Proofs.YtcanfpppllhogaaDoor.Lx
