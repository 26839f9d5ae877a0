/- What lex and the reference answer, function by function (LexTokens, part Q). -/
import Derived.Test.YtcanfpppllhogaaDoorLtP
import Derived.Laws.ResultCell
import Derived.Laws.Concat
namespace Go.Proofs.YtcanfpppllhogaaDoor.Lx
open Go.RowKit Go.Proofs
open Go.Am (spanL)
noncomputable section

/-! ### the reference's name -/
def nameK (s : ByteArray) (n : Nat) : Nat := if letterP (atB s n) = true then n + sp (dashP true false) s n else n
def rnameE (s : ByteArray) (n : Nat) : Nat := if atB s (nameK s n) = 58 then bd s (nameK s n + 1 + sp (dashP true true) s (nameK s n + 1)) else 0
set_option maxHeartbeats 2000000 in
set_option maxRecDepth 1000000 in
theorem rname_A (s : ByteArray) (n : Nat) (w : World) (hn : n < s.size) (hs : s.size ≤ 4000) (hL : letterP s[n].toNat = false) (E : Nat) (hE : n + 1 + sp (dashP true true) s (n + 1) = E) :
    Calls Tryd.prog 46 #[.string s, .int .i64 (n : Int)] w fun e w' => (if s[n].toNat = 58 then e = .returned (.int .i64 (bd s E : Nat)) else e = .returned (.int .i64 0)) ∧ Below w.heap.size w w' := by
  have hnI : (n : Int) < (s.size : Int) := by omega
  have hn256 : s[n].toNat < 256 := s[n].toNat_lt
  have cL := rletter_calls s[n].toNat hn256 w
  dsimp only at cL
  rw [hL] at cL
  have hEle : E ≤ s.size := by have := sp_le (dashP true true) s (n + 1); omega
  have hE1 : n + 1 ≤ E := by omega
  have cW2 : ∀ (W : World) (i : Int), i = ((n + 1 : Nat) : Int) → Calls Tryd.prog 40 #[.string s, .int .i64 i, .bool true, .bool true] W fun e w' => e = .returned (.int .i64 (E : Nat)) ∧ Below W.heap.size W w' := by
    intro W i e
    subst e
    have := rwords_TT s (n + 1) W (by omega) hs
    rw [hE] at this
    exact this
  clear hE
  obtain ⟨K, hK⟩ : ∃ K, K = n := ⟨_, rfl⟩
  by_cases c0 : s[n].toNat = 58
  · simp only [c0, if_true]
    rw [c0] at cL
    have c0I : (s[n].toNat : Int) = 58 := by omega
    have hK58 : s[K]'(by omega) = s[n] := by subst hK; rfl
    go_enter Tryd.func46, Tryd.ntmps46
    go_wp2_with (first
      | (go_at_call 41; refine cL.mono ?_; rintro e w1 ⟨rfl, hb1⟩)
      | (go_at_call 40; refine (cW2 _ _ (by omega)).mono ?_; rintro e w2 ⟨rfl, hb2⟩))
    have hb0 : Below w.heap.size w w2 := hb1.trans (hb2.mono hb1.size)
    subst hK
    · go_loopg [5] (E + 1) (fun gf i wx => ∃ m : Nat, i = .int .i64 ((m : Int) + 1) ∧ K ≤ m ∧ m + 1 ≤ E ∧ bd s (m + 1) = bd s E ∧ Below w.heap.size w wx ∧ m + 1 ≤ gf)
      case atStart => exact ⟨E - 1, congrArg (Value.int .i64) (by omega), by omega, by omega, by rw [show E - 1 + 1 = E by omega], hb0, by omega⟩
      case round =>
        obtain ⟨m, rfl, hm1, hm2, hbd, hbw, hfu⟩ := hrel
        have hml : m < s.size := by omega
        have hmI : (m : Int) < (s.size : Int) := by omega
        by_cases c : s[m].toNat = 46
        · have hne : m ≠ K := fun e => by subst e; omega
          have cI : (s[m].toNat : Int) = 46 := by omega
          obtain ⟨g', rfl⟩ : ∃ g', gk = g' + 1 := ⟨gk - 1, by omega⟩
          obtain ⟨m', rfl⟩ : ∃ m', m = m' + 1 := ⟨m - 1, by omega⟩
          go_wp2
          go_roundg g'
          case measure => omega
          case rel => exact ⟨m', by simp, by omega, by omega, (bd_go (by rw [atB_in hml]; exact c)).symm.trans hbd, hbw, by omega⟩
        · have cI : ¬ (s[m].toNat : Int) = 46 := by omega
          have hfin : bd s E = m + 1 := by rw [← hbd, bd_stop (by rw [atB_in hml]; exact c)]
          clear hbd
          go_wp2
          go_ret
          exact ⟨show Ending.returned (.int .i64 ((m : Int) + 1)) = _ from congrArg (fun z : Int => Ending.returned (.int .i64 z)) (by omega), hbw⟩
  · simp only [c0, if_false]
    have c0I : ¬ (s[n].toNat : Int) = 58 := by omega
    have b58 : ((s[n].toNat : Int) != 58) = true := bne_iff_ne.2 c0I
    go_enter Tryd.func46, Tryd.ntmps46
    go_wp2_with (go_at_call 41; refine cL.mono ?_; rintro e w1 ⟨rfl, hb1⟩)
    go_ret
    exact ⟨rfl, hb1⟩
set_option maxHeartbeats 2000000 in
set_option maxRecDepth 1000000 in
theorem rname_B (s : ByteArray) (n : Nat) (w : World) (hn : n < s.size) (hs : s.size ≤ 4000) (hL : letterP s[n].toNat = true) (K E : Nat) (hK : n + sp (dashP true false) s n = K) (hE : K + 1 + sp (dashP true true) s (K + 1) = E) :
    Calls Tryd.prog 46 #[.string s, .int .i64 (n : Int)] w fun e w' => (if atB s K = 58 then e = .returned (.int .i64 (bd s E : Nat)) else e = .returned (.int .i64 0)) ∧ Below w.heap.size w w' := by
  have hnI : (n : Int) < (s.size : Int) := by omega
  have hn256 : s[n].toNat < 256 := s[n].toNat_lt
  have cL := rletter_calls s[n].toNat hn256 w
  dsimp only at cL
  rw [hL] at cL
  have hKle : K ≤ s.size := by have := sp_le (dashP true false) s n; omega
  have cW1 := fun W => rwords_TF s n W (by omega) hs
  rw [hK] at cW1
  clear hK
  by_cases hKs : K < s.size
  · have hKI : (K : Int) < (s.size : Int) := by omega
    rw [atB_in hKs]
    have hEle : E ≤ s.size := by have := sp_le (dashP true true) s (K + 1); omega
    have hE1 : K + 1 ≤ E := by omega
    have cW2 : ∀ (W : World) (i : Int), i = ((K + 1 : Nat) : Int) → Calls Tryd.prog 40 #[.string s, .int .i64 i, .bool true, .bool true] W fun e w' => e = .returned (.int .i64 (E : Nat)) ∧ Below W.heap.size W w' := by
      intro W i e
      subst e
      have := rwords_TT s (K + 1) W (by omega) hs
      rw [hE] at this
      exact this
    clear hE
    by_cases c0 : s[K].toNat = 58
    · simp only [c0, if_true]
      have c0I : (s[K].toNat : Int) = 58 := by omega
      go_enter Tryd.func46, Tryd.ntmps46
      go_wp2_with (first
        | (go_at_call 41; refine cL.mono ?_; rintro e w1 ⟨rfl, hb1⟩)
        | (go_at_call 40; refine (cW2 w3 _ (by omega)).mono ?_; rintro e w2 ⟨rfl, hb2⟩)
        | (go_at_call 40; refine (cW1 _).mono ?_; rintro e w3 ⟨rfl, hb3⟩))
      have hb0 : Below w.heap.size w w2 := hb1.trans ((hb3.trans (hb2.mono hb3.size)).mono hb1.size)
      · go_loopg [5] (E + 1) (fun gf i wx => ∃ m : Nat, i = .int .i64 ((m : Int) + 1) ∧ K ≤ m ∧ m + 1 ≤ E ∧ bd s (m + 1) = bd s E ∧ Below w.heap.size w wx ∧ m + 1 ≤ gf)
        case atStart => exact ⟨E - 1, congrArg (Value.int .i64) (by omega), by omega, by omega, by rw [show E - 1 + 1 = E by omega], hb0, by omega⟩
        case round =>
          obtain ⟨m, rfl, hm1, hm2, hbd, hbw, hfu⟩ := hrel
          have hml : m < s.size := by omega
          have hmI : (m : Int) < (s.size : Int) := by omega
          by_cases c : s[m].toNat = 46
          · have hne : m ≠ K := fun e => by subst e; omega
            have cI : (s[m].toNat : Int) = 46 := by omega
            obtain ⟨g', rfl⟩ : ∃ g', gk = g' + 1 := ⟨gk - 1, by omega⟩
            obtain ⟨m', rfl⟩ : ∃ m', m = m' + 1 := ⟨m - 1, by omega⟩
            go_wp2
            go_roundg g'
            case measure => omega
            case rel => exact ⟨m', by simp, by omega, by omega, (bd_go (by rw [atB_in hml]; exact c)).symm.trans hbd, hbw, by omega⟩
          · have cI : ¬ (s[m].toNat : Int) = 46 := by omega
            have hfin : bd s E = m + 1 := by rw [← hbd, bd_stop (by rw [atB_in hml]; exact c)]
            clear hbd
            go_wp2
            go_ret
            exact ⟨show Ending.returned (.int .i64 ((m : Int) + 1)) = _ from congrArg (fun z : Int => Ending.returned (.int .i64 z)) (by omega), hbw⟩
    · simp only [c0, if_false]
      have c0I : ¬ (s[K].toNat : Int) = 58 := by omega
      have b58 : ((s[K].toNat : Int) != 58) = true := bne_iff_ne.2 c0I
      go_enter Tryd.func46, Tryd.ntmps46
      go_wp2_with (first
        | (go_at_call 41; refine cL.mono ?_; rintro e w1 ⟨rfl, hb1⟩)
        | (go_at_call 40; refine (cW1 _).mono ?_; rintro e w3 ⟨rfl, hb3⟩))
      go_ret
      exact ⟨rfl, hb1.trans (hb3.mono hb1.size)⟩
  · have hKI : ¬ (K : Int) < (s.size : Int) := by omega
    have hKG : (K : Int) ≥ (s.size : Int) := by omega
    rw [atB_out hKs]
    simp only [show ¬ (0 : Nat) = 58 by decide, if_false]
    go_enter Tryd.func46, Tryd.ntmps46
    go_wp2_with (first
      | (go_at_call 41; refine cL.mono ?_; rintro e w1 ⟨rfl, hb1⟩)
      | (go_at_call 40; refine (cW1 _).mono ?_; rintro e w3 ⟨rfl, hb3⟩))
    go_ret
    exact ⟨rfl, hb1.trans (hb3.mono hb1.size)⟩
theorem rname_calls (s : ByteArray) (n : Nat) (w : World) (hn : n < s.size) (hs : s.size ≤ 4000) :
    Calls Tryd.prog 46 #[.string s, .int .i64 (n : Int)] w fun e w' => e = .returned (.int .i64 (rnameE s n : Nat)) ∧ Below w.heap.size w w' := by
  unfold rnameE nameK
  rw [atB_in hn]
  cases hL : letterP s[n].toNat with
  | false =>
    simp only [Bool.false_eq_true, if_false]
    refine (rname_A s n w hn hs hL _ rfl).mono ?_
    rintro e w' ⟨h, hb⟩
    rw [atB_in hn]
    split at h
    · rename_i c; rw [if_pos c]; exact ⟨h, hb⟩
    · rename_i c; rw [if_neg c]; exact ⟨h, hb⟩
  | true =>
    simp only [if_true]
    refine (rname_B s n w hn hs hL _ _ rfl rfl).mono ?_
    rintro e w' ⟨h, hb⟩
    split at h
    · rename_i c; rw [if_pos c]; exact ⟨h, hb⟩
    · rename_i c; rw [if_neg c]; exact ⟨h, hb⟩
end
end Go.Proofs.YtcanfpppllhogaaDoor.Lx
