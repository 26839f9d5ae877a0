/- What lex and the reference answer, function by function (LexTokens, part O). -/
import Derived.Test.YtcanfpppllhogaaDoorLtN
import Derived.Laws.ResultCell
import Derived.Laws.Concat
namespace Go.Proofs.YtcanfpppllhogaaDoor.Lx
open Go.RowKit Go.Proofs
open Go.Am (spanL)
noncomputable section

/-! ### the reference's loops -/
set_option maxHeartbeats 2000000 in
set_option maxRecDepth 1000000 in
theorem rlang_calls (s : ByteArray) (n : Nat) (w : World) (hn : n ≤ 5000) (hs : s.size ≤ 4000) :
    Calls Tryd.prog 43 #[.string s, .int .i64 (n : Int)] w fun e w' => e = .returned (.int .i64 ((n + sp langP s n : Nat) : Int)) ∧ Below w.heap.size w w' := by
  obtain ⟨S, hS⟩ : ∃ S, sp langP s n = S := ⟨_, rfl⟩
  rw [hS]
  go_enter Tryd.func43, Tryd.ntmps43
  go_wp2
  go_loopg [1] (s.size + 1) (fun gf i wx => ∃ m : Nat, i = .int .i64 (m : Int) ∧ n ≤ m ∧ m ≤ 20000 ∧ Below w.heap.size w wx ∧ spanL langP (s.data.toList.drop m) (m - n) = S ∧ s.size + 1 ≤ gf + m)
  case atStart => exact ⟨n, rfl, Nat.le_refl _, by omega, Below.refl _ _, by rw [Nat.sub_self]; exact hS, by omega⟩
  case round =>
    obtain ⟨m, rfl, hnm, hm2, hbw, hsp, hfu⟩ := hrel
    by_cases hlt : m < s.size
    · obtain ⟨g', rfl⟩ : ∃ g', gk = g' + 1 := ⟨gk - 1, by omega⟩
      have hltI : (m : Int) < (s.size : Int) := by omega
      have hml : m < s.data.toList.length := by rw [Array.length_toList]; exact hlt
      have hb : s.data.toList[m] = s[m] := rfl
      have hc256 : s[m].toNat < 256 := s[m].toNat_lt
      rw [Row.drop_at _ _ hml, spanL_cons, hb] at hsp
      clear hb
      by_cases h1 : 97 ≤ s[m].toNat
      · have i1 : (97 : Int) ≤ (s[m].toNat : Int) := by omega
        by_cases h2 : s[m].toNat ≤ 122
        · have i2 : (s[m].toNat : Int) ≤ 122 := by omega
          have hD : langP s[m].toNat = true := by unfold langP lowP; rw [show Nat.ble 97 s[m].toNat = true from Nat.ble_eq_true_of_le h1, show Nat.ble s[m].toNat 122 = true from Nat.ble_eq_true_of_le h2]; rfl
          rw [if_pos hD, show m - n + 1 = m + 1 - n by omega] at hsp
          clear hD
          go_wp2
          go_roundg g'
          case measure => omega
          case rel => exact ⟨m + 1, by simp, by omega, by omega, hbw, hsp, by omega⟩
        · have i2 : ¬ (s[m].toNat : Int) ≤ 122 := by omega
          have i45 : ¬ (s[m].toNat : Int) = 45 := by omega
          have b45 : ((s[m].toNat : Int) == 45) = false := beq_eq_false_iff_ne.2 i45
          have hD : langP s[m].toNat = false := by unfold langP lowP; rw [show Nat.ble s[m].toNat 122 = false from Bool.eq_false_iff.2 (fun e => h2 (Nat.le_of_ble_eq_true e)), Bool.and_false, show Nat.beq s[m].toNat 45 = false from Bool.eq_false_iff.2 (fun e => by have := Nat.eq_of_beq_eq_true e; omega)]; rfl
          rw [if_neg (by rw [hD]; exact Bool.false_ne_true)] at hsp
          clear hD
          go_wp2
          go_ret
          exact ⟨show Ending.returned (.int .i64 (m : Int)) = _ from congrArg (fun z : Int => Ending.returned (.int .i64 z)) (by omega), hbw⟩
      · have i1 : ¬ (97 : Int) ≤ (s[m].toNat : Int) := by omega
        by_cases h3 : s[m].toNat = 45
        · have i45 : (s[m].toNat : Int) = 45 := by omega
          have hD : langP s[m].toNat = true := by rw [h3]; rfl
          rw [if_pos hD, show m - n + 1 = m + 1 - n by omega] at hsp
          clear hD
          go_wp2
          go_roundg g'
          case measure => omega
          case rel => exact ⟨m + 1, by simp, by omega, by omega, hbw, hsp, by omega⟩
        · have i45 : ¬ (s[m].toNat : Int) = 45 := by omega
          have b45 : ((s[m].toNat : Int) == 45) = false := beq_eq_false_iff_ne.2 i45
          have hD : langP s[m].toNat = false := by unfold langP lowP; rw [show Nat.ble 97 s[m].toNat = false from Bool.eq_false_iff.2 (fun e => h1 (Nat.le_of_ble_eq_true e)), Bool.false_and, show Nat.beq s[m].toNat 45 = false from Bool.eq_false_iff.2 (fun e => h3 (Nat.eq_of_beq_eq_true e))]; rfl
          rw [if_neg (by rw [hD]; exact Bool.false_ne_true)] at hsp
          clear hD
          go_wp2
          go_ret
          exact ⟨show Ending.returned (.int .i64 (m : Int)) = _ from congrArg (fun z : Int => Ending.returned (.int .i64 z)) (by omega), hbw⟩
    · have hltI : ¬ (m : Int) < (s.size : Int) := by omega
      have hsp : m - n = S := by
        rw [← hsp, List.drop_eq_nil_of_le (by rw [Array.length_toList]; exact Nat.le_of_not_lt hlt)]
        rfl
      go_wp2
      go_ret
      exact ⟨show Ending.returned (.int .i64 (m : Int)) = _ from congrArg (fun z : Int => Ending.returned (.int .i64 z)) (by omega), hbw⟩
set_option maxHeartbeats 2000000 in
set_option maxRecDepth 1000000 in
theorem riri_calls (s : ByteArray) (n : Nat) (w : World) (hns : n < s.size) (hs : s.size ≤ 4000) :
    Calls Tryd.prog 39 #[.string s, .int .i64 (n : Int)] w fun e w' => e = .returned (.int .i64 ((if atB s n = 60 ∧ atB s (n + 1 + sp iriP s (n + 1)) = 62 then n + 2 + sp iriP s (n + 1) else 0 : Nat) : Int)) ∧ Below w.heap.size w w' := by
  obtain ⟨S, hS⟩ : ∃ S, sp iriP s (n + 1) = S := ⟨_, rfl⟩
  rw [hS]
  have hnI : (n : Int) < (s.size : Int) := by omega
  have hn256 : s[n].toNat < 256 := s[n].toNat_lt
  obtain ⟨R, hR⟩ : ∃ R : Nat, (if atB s n = 60 ∧ atB s (n + 1 + S) = 62 then n + 2 + S else 0) = R := ⟨_, rfl⟩
  rw [hR]
  go_enter Tryd.func39, Tryd.ntmps39
  go_wp2
  go_loopg [5] (s.size + 1) (fun gf i wx => ∃ m : Nat, i = .int .i64 (m : Int) ∧ (n + 1) ≤ m ∧ m ≤ 20000 ∧ Below w.heap.size w wx ∧ spanL iriP (s.data.toList.drop m) (m - (n + 1)) = S ∧ s.size + 1 ≤ gf + m)
  case atStart => exact ⟨(n + 1), by congr 1, Nat.le_refl _, by omega, Below.refl _ _, by rw [Nat.sub_self]; exact hS, by omega⟩
  case round =>
    obtain ⟨m, rfl, hnm, hm2, hbw, hsp, hfu⟩ := hrel
    by_cases hlt : m < s.size
    · obtain ⟨g', rfl⟩ : ∃ g', gk = g' + 1 := ⟨gk - 1, by omega⟩
      have hltI : (m : Int) < (s.size : Int) := by omega
      have hml : m < s.data.toList.length := by rw [Array.length_toList]; exact hlt
      have hb : s.data.toList[m] = s[m] := rfl
      have hc256 : s[m].toNat < 256 := s[m].toNat_lt
      rw [Row.drop_at _ _ hml, spanL_cons, hb] at hsp
      clear hb
      have cS := rsign_calls s[m].toNat hc256 wr
      dsimp only at cS
      cases hD : iriP s[m].toNat with
      | true =>
        rw [hD] at cS
        rw [if_pos hD, show m - (n + 1) + 1 = m + 1 - (n + 1) by omega] at hsp
        clear hD
        go_wp2_with (go_at_call 54; refine cS.mono ?_; rintro e W' ⟨rfl, hbl⟩)
        go_roundg g'
        case measure => omega
        case rel => exact ⟨m + 1, by simp, by omega, by omega, hbw.trans (hbl.mono hbw.size), hsp, by omega⟩
      | false =>
        rw [hD] at cS
        rw [if_neg (by rw [hD]; exact Bool.false_ne_true)] at hsp
        clear hD
        have hm : n + 1 + S = m := by omega
        by_cases c0 : s[n].toNat = 60
        · have c0I : (s[n].toNat : Int) = 60 := by omega
          by_cases c1 : s[m].toNat = 62
          · have c1I : (s[m].toNat : Int) = 62 := by omega
            rw [if_pos ⟨by rw [atB_in hns]; exact c0, by rw [hm, atB_in hlt]; exact c1⟩] at hR; subst hR
            rw [c1] at cS
            go_wp2_with (go_at_call 54; refine cS.mono ?_; rintro e W' ⟨rfl, hbl⟩)
            go_ret
            exact ⟨show Ending.returned (.int .i64 ((m : Int) + 1)) = _ from congrArg (fun z : Int => Ending.returned (.int .i64 z)) (by omega), hbw.trans (hbl.mono hbw.size)⟩
          · have c1I : ¬ (s[m].toNat : Int) = 62 := by omega
            have b62 : ((s[m].toNat : Int) != 62) = true := bne_iff_ne.2 c1I
            rw [if_neg (fun e => c1 (by have := e.2; rw [hm, atB_in hlt] at this; exact this))] at hR; subst hR
            go_wp2_with (go_at_call 54; refine cS.mono ?_; rintro e W' ⟨rfl, hbl⟩)
            go_ret
            exact ⟨rfl, hbw.trans (hbl.mono hbw.size)⟩
        · have c0I : ¬ (s[n].toNat : Int) = 60 := by omega
          have b60 : ((s[n].toNat : Int) != 60) = true := bne_iff_ne.2 c0I
          rw [if_neg (fun e => c0 (by have := e.1; rw [atB_in hns] at this; exact this))] at hR; subst hR
          go_wp2_with (go_at_call 54; refine cS.mono ?_; rintro e W' ⟨rfl, hbl⟩)
          go_ret
          exact ⟨rfl, hbw.trans (hbl.mono hbw.size)⟩
    · have hltI : ¬ (m : Int) < (s.size : Int) := by omega
      have hsp : m - (n + 1) = S := by
        rw [← hsp, List.drop_eq_nil_of_le (by rw [Array.length_toList]; exact Nat.le_of_not_lt hlt)]
        rfl
      rw [if_neg (fun e => by have := e.2; rw [atB_out (by omega)] at this; omega)] at hR; subst hR
      by_cases c0 : s[n].toNat = 60
      · have c0I : (s[n].toNat : Int) = 60 := by omega
        go_wp2
        go_ret
        exact ⟨rfl, hbw⟩
      · have c0I : ¬ (s[n].toNat : Int) = 60 := by omega
        have b60 : ((s[n].toNat : Int) != 60) = true := bne_iff_ne.2 c0I
        go_wp2
        go_ret
        exact ⟨rfl, hbw⟩
end
end Go.Proofs.YtcanfpppllhogaaDoor.Lx
