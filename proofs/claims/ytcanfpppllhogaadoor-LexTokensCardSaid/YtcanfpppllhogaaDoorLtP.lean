/- What lex and the reference answer, function by function (LexTokens, part P). -/
import Derived.Test.YtcanfpppllhogaaDoorLtO
import Derived.Laws.ResultCell
import Derived.Laws.Concat
namespace Go.Proofs.YtcanfpppllhogaaDoor.Lx
open Go.RowKit Go.Proofs
open Go.Am (spanL)
noncomputable section

/-! ### the reference's number -/
theorem digit0 : digitP 0 = false := rfl
def rnumE (s : ByteArray) (n : Nat) : Nat := if atB s (n + sp digitP s n) = 46 ∧ digitP (atB s (n + sp digitP s n + 1)) = true then n + sp digitP s n + 1 + sp digitP s (n + sp digitP s n + 1) else n + sp digitP s n
set_option maxHeartbeats 2000000 in
set_option maxRecDepth 1000000 in
theorem rnumber_calls (s : ByteArray) (n : Nat) (w : World) (hn : n ≤ 5000) (hs : s.size ≤ 4000) :
    Calls Tryd.prog 45 #[.string s, .int .i64 (n : Int)] w fun e w' => e = .returned (.int .i64 (rnumE s n : Nat)) ∧ Below w.heap.size w w' := by
  unfold rnumE
  obtain ⟨S, hS⟩ : ∃ S, sp digitP s n = S := ⟨_, rfl⟩
  rw [hS]
  obtain ⟨R, hR⟩ : ∃ R : Nat, (if atB s (n + S) = 46 ∧ digitP (atB s (n + S + 1)) = true then n + S + 1 + sp digitP s (n + S + 1) else n + S) = R := ⟨_, rfl⟩
  rw [hR]
  go_enter Tryd.func45, Tryd.ntmps45
  go_wp2
  go_loopg [1] (s.size + 1) (fun gf i wx => ∃ m : Nat, i = .int .i64 (m : Int) ∧ n ≤ m ∧ m ≤ 20000 ∧ Below w.heap.size w wx ∧ spanL digitP (s.data.toList.drop m) (m - n) = S ∧ s.size + 1 ≤ gf + m)
  case atStart => exact ⟨n, rfl, Nat.le_refl _, by omega, Below.refl _ _, by rw [Nat.sub_self]; exact hS, by omega⟩
  case round =>
    obtain ⟨m, rfl, hnm, hm2, hbw, hsp, hfu⟩ := hrel
    by_cases hlt : m < s.size
    · obtain ⟨g', rfl⟩ : ∃ g', gk = g' + 1 := ⟨gk - 1, by omega⟩
      have hltI : (m : Int) < (s.size : Int) := by omega
      have hml : m < s.data.toList.length := by rw [Array.length_toList]; exact hlt
      have hb : s.data.toList[m] = s[m] := rfl
      have hc256 : s[m].toNat < 256 := s[m].toNat_lt
      rw [Row.drop_at _ _ hml, spanL_cons, hb] at hsp
      clear hb
      have cS := rdigit_calls s[m].toNat hc256 wr
      dsimp only at cS
      cases hD : digitP s[m].toNat with
      | true =>
        rw [hD] at cS
        rw [if_pos hD, show m - n + 1 = m + 1 - n by omega] at hsp
        clear hD
        go_wp2_with (go_at_call 44; refine cS.mono ?_; rintro e W' ⟨rfl, hbl⟩)
        go_roundg g'
        case measure => omega
        case rel => exact ⟨m + 1, by simp, by omega, by omega, hbw.trans (hbl.mono hbw.size), hsp, by omega⟩
      | false =>
        rw [hD] at cS
        rw [if_neg (by rw [hD]; exact Bool.false_ne_true)] at hsp
        clear hD
        have hm : n + S = m := by omega
        by_cases hl2 : m + 1 < s.size
        · have hl2I : (m : Int) + 1 < (s.size : Int) := by omega
          have hE256 : s[m + 1].toNat < 256 := s[m + 1].toNat_lt
          have hEA : atB s (m + 1) = s[m + 1].toNat := atB_in hl2
          obtain ⟨E, hE⟩ : ∃ E, s[m + 1].toNat = E := ⟨_, rfl⟩
          rw [hE] at hE256 hEA
          have cE := fun W => rdigit_calls E hE256 W
          dsimp only at cE
          by_cases c0 : s[m].toNat = 46
          · have c0I : (s[m].toNat : Int) = 46 := by omega
            rw [c0] at cS
            cases hdE : digitP E with
            | true =>
              simp only [hdE] at cE
              rw [hm, if_pos ⟨by rw [atB_in hlt]; exact c0, by rw [hEA]; exact hdE⟩] at hR
              obtain ⟨S2, hS2⟩ : ∃ S2, sp digitP s (m + 1) = S2 := ⟨_, rfl⟩
              rw [hS2] at hR
              obtain ⟨q, hq⟩ : ∃ q, q = m + 1 := ⟨_, rfl⟩
              have hq2 : q ≤ 4000 := by omega
              rw [← hq] at hS2 hR
              clear hsp hEA
              go_wp2_with (first
                | (go_at_call 44; refine (cE W').mono ?_; rintro e W2 ⟨rfl, hbl2⟩)
                | (go_at_call 44; refine cS.mono ?_; rintro e W' ⟨rfl, hbl⟩))
              have hb0 := hbw.trans ((hbl.trans (hbl2.mono hbl.size)).mono hbw.size)
              clear cS cE hE
              go_loopg [1] (s.size + 1) (fun gf i wx => ∃ m : Nat, i = .int .i64 (m : Int) ∧ q ≤ m ∧ m ≤ 20000 ∧ Below w.heap.size w wx ∧ spanL digitP (s.data.toList.drop m) (m - q) = S2 ∧ s.size + 1 ≤ gf + m)
              case atStart => exact ⟨q, congrArg (Value.int .i64) (by omega), Nat.le_refl _, by omega, hb0, by rw [Nat.sub_self]; exact hS2, by omega⟩
              case round =>
                obtain ⟨m, rfl, hnm, hm2, hbw, hsp, hfu⟩ := hrel
                by_cases hlt : m < s.size
                · obtain ⟨g', rfl⟩ : ∃ g', gk = g' + 1 := ⟨gk - 1, by omega⟩
                  have hltI : (m : Int) < (s.size : Int) := by omega
                  have hml : m < s.data.toList.length := by rw [Array.length_toList]; exact hlt
                  have hb : s.data.toList[m] = s[m] := rfl
                  have hc256 : s[m].toNat < 256 := s[m].toNat_lt
                  rw [Row.drop_at _ _ hml, spanL_cons, hb] at hsp
                  clear hb
                  have cS := rdigit_calls s[m].toNat hc256 wr
                  dsimp only at cS
                  cases hD : digitP s[m].toNat with
                  | true =>
                    rw [hD] at cS
                    rw [if_pos hD, show m - q + 1 = m + 1 - q by omega] at hsp
                    clear hD
                    go_wp2_with (go_at_call 44; refine cS.mono ?_; rintro e W' ⟨rfl, hbl⟩)
                    go_roundg g'
                    case measure => omega
                    case rel => exact ⟨m + 1, by simp, by omega, by omega, hbw.trans (hbl.mono hbw.size), hsp, by omega⟩
                  | false =>
                    rw [hD] at cS
                    rw [if_neg (by rw [hD]; exact Bool.false_ne_true)] at hsp
                    clear hD
                    go_wp2_with (go_at_call 44; refine cS.mono ?_; rintro e W' ⟨rfl, hbl⟩)
                    go_ret
                    exact ⟨show Ending.returned (.int .i64 (m : Int)) = _ from congrArg (fun z : Int => Ending.returned (.int .i64 z)) (by omega), hbw.trans (hbl.mono hbw.size)⟩
                · have hltI : ¬ (m : Int) < (s.size : Int) := by omega
                  have hsp : m - q = S2 := by
                    rw [← hsp, List.drop_eq_nil_of_le (by rw [Array.length_toList]; exact Nat.le_of_not_lt hlt)]
                    rfl
                  go_wp2
                  go_ret
                  exact ⟨show Ending.returned (.int .i64 (m : Int)) = _ from congrArg (fun z : Int => Ending.returned (.int .i64 z)) (by omega), hbw⟩
            | false =>
              simp only [hdE] at cE
              rw [if_neg (fun e => by have := e.2; rw [hm, hEA, hdE] at this; cases this)] at hR
              subst hR
              go_wp2_with (first
                | (go_at_call 44; refine (cE W').mono ?_; rintro e W2 ⟨rfl, hbl2⟩)
                | (go_at_call 44; refine cS.mono ?_; rintro e W' ⟨rfl, hbl⟩))
              go_ret
              exact ⟨show Ending.returned (.int .i64 (m : Int)) = _ from congrArg (fun z : Int => Ending.returned (.int .i64 z)) (by omega), hbw.trans ((hbl.trans (hbl2.mono hbl.size)).mono hbw.size)⟩
          · have c0I : ¬ (s[m].toNat : Int) = 46 := by omega
            have b46 : ((s[m].toNat : Int) == 46) = false := beq_eq_false_iff_ne.2 c0I
            rw [if_neg (fun e => c0 (by have := e.1; rw [hm, atB_in hlt] at this; exact this))] at hR
            subst hR
            go_wp2_with (go_at_call 44; refine cS.mono ?_; rintro e W' ⟨rfl, hbl⟩)
            go_ret
            exact ⟨show Ending.returned (.int .i64 (m : Int)) = _ from congrArg (fun z : Int => Ending.returned (.int .i64 z)) (by omega), hbw.trans (hbl.mono hbw.size)⟩
        · have hl2I : ¬ (m : Int) + 1 < (s.size : Int) := by omega
          rw [if_neg (fun e => by have := e.2; rw [hm, atB_out hl2, digit0] at this; cases this)] at hR
          subst hR
          go_wp2_with (go_at_call 44; refine cS.mono ?_; rintro e W' ⟨rfl, hbl⟩)
          go_ret
          exact ⟨show Ending.returned (.int .i64 (m : Int)) = _ from congrArg (fun z : Int => Ending.returned (.int .i64 z)) (by omega), hbw.trans (hbl.mono hbw.size)⟩
    · have hltI : ¬ (m : Int) < (s.size : Int) := by omega
      have hsp : m - n = S := by
        rw [← hsp, List.drop_eq_nil_of_le (by rw [Array.length_toList]; exact Nat.le_of_not_lt hlt)]
        rfl
      have hm : n + S = m := by omega
      rw [if_neg (fun e => by have := e.1; rw [hm, atB_out hlt] at this; omega)] at hR
      subst hR
      have hl2I : ¬ (m : Int) + 1 < (s.size : Int) := by omega
      go_wp2
      go_ret
      exact ⟨show Ending.returned (.int .i64 (m : Int)) = _ from congrArg (fun z : Int => Ending.returned (.int .i64 z)) (by omega), hbw⟩
end
end Go.Proofs.YtcanfpppllhogaaDoor.Lx
