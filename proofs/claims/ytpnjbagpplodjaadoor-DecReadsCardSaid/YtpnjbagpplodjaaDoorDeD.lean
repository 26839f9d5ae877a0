/- Noughts behind the point: plain. -/
import Derived.Test.YtpnjbagpplodjaaDoorDeC
namespace Go.Proofs.YtpnjbagpplodjaaDoor
open Go.RowKit Go.Am
set_option maxRecDepth 1000000
set_option linter.unusedSimpArgs false
set_option linter.unusedVariables false
noncomputable section
/-! ### noughts behind the point -/
theorem gd_stop (n : Nat) (m s : Int) (h : s = 0 ∨ m.tmod 10 ≠ 0) (hs : 0 ≤ s) : Sp.gd n m s = (m, s) := by
  cases n with
  | zero => rfl
  | succ n => unfold Sp.gd; rw [if_neg (by omega)]
theorem gd_fuel : ∀ (n : Nat) (m s : Int) (k : Nat), 0 ≤ s → s ≤ n → Sp.gd (n + k) m s = Sp.gd n m s := by
  intro n
  induction n with
  | zero => intro m s k h0 h1; rw [gd_stop _ _ _ (.inl (by omega)) h0, gd_stop _ _ _ (.inl (by omega)) h0]
  | succ n ih =>
    intro m s k h0 h1
    rw [show n + 1 + k = (n + k) + 1 by omega]
    unfold Sp.gd
    split
    · rename_i h; exact ih _ _ _ (by omega) (by omega)
    · rfl
theorem gd_neg : ∀ (n : Nat) (m s : Int), Sp.gd n (-m) s = (-(Sp.gd n m s).1, (Sp.gd n m s).2) := by
  intro n
  induction n with
  | zero => intro m s; rfl
  | succ n ih =>
    intro m s
    unfold Sp.gd
    rw [Int.neg_tmod, Int.neg_tdiv]
    by_cases h : 0 < s ∧ m.tmod 10 = 0
    · rw [if_pos ⟨h.1, by omega⟩, if_pos h, ih]
    · rw [if_neg (fun g => h ⟨g.1, by omega⟩), if_neg h]
theorem gd_ten (n : Nat) (m s : Int) (hs : 0 ≤ s) : Sp.gd (n + 1) (m * 10) (s + 1) = Sp.gd n m s := by
  conv => lhs; unfold Sp.gd
  have h := tsplit (m * 10) 10 (by omega)
  rw [if_pos ⟨by omega, by omega⟩]
  rw [show (m * 10).tdiv 10 = m by omega, show s + 1 - 1 = s by omega]
theorem gd_tens (n : Nat) (m s : Int) (hs : 0 ≤ s) : ∀ k : Nat, Sp.gd (n + k) (m * 10 ^ k) (s + k) = Sp.gd n m s := by
  intro k
  induction k with
  | zero => simp
  | succ k ih =>
    rw [Int.pow_succ, ← Int.mul_assoc, show s + ((k + 1 : Nat) : Int) = (s + k) + 1 by omega, show n + (k + 1) = (n + k) + 1 by omega, gd_ten _ _ _ (by omega)]
    exact ih
theorem gd_end : ∀ (n : Nat) (m s : Int), 0 ≤ s → s ≤ n → ((Sp.gd n m s).2 = 0 ∨ (Sp.gd n m s).1.tmod 10 ≠ 0) ∧ 0 ≤ (Sp.gd n m s).2 ∧ (Sp.gd n m s).2 ≤ s := by
  intro n
  induction n with
  | zero => intro m s h0 h1; exact ⟨.inl (by show s = 0; omega), h0, Int.le_refl s⟩
  | succ n ih =>
    intro m s h0 h1
    unfold Sp.gd
    split
    · rename_i h
      obtain ⟨a, b, c⟩ := ih (m.tdiv 10) (s - 1) (by omega) (by omega)
      exact ⟨a, b, by omega⟩
    · rename_i h
      refine ⟨?_, h0, Int.le_refl s⟩
      by_cases hs : 0 < s
      · exact .inr fun e => h ⟨hs, e⟩
      · exact .inl (by show s = 0; omega)
theorem p10_succ (n : Int) (h : 0 ≤ n) : Sp.p10 (n + 1) = 10 * Sp.p10 n := by
  unfold Sp.p10
  rw [show (n + 1).toNat = n.toNat + 1 by omega, Int.pow_succ, Int.mul_comm]
theorem gd_val : ∀ (n : Nat) (m s : Int), 0 ≤ s → s ≤ 6 → Sp.val (Sp.gd n m s).1 (Sp.gd n m s).2 = Sp.val m s := by
  intro n
  induction n with
  | zero => intro m s _ _; rfl
  | succ n ih =>
    intro m s h0 h1
    unfold Sp.gd
    split
    · rename_i h
      rw [ih _ _ (by omega) (by omega)]
      unfold Sp.val
      have hm := tsplit m 10 (by omega)
      rw [show 6 - (s - 1) = (6 - s) + 1 by omega, p10_succ _ (by omega), ← Int.mul_assoc]
      congr 1
      omega
    · rfl
theorem valid_iff {m s : Int} : Sp.valid m s = true ↔ (-1000000000000000 < m ∧ m < 1000000000000000 ∧ 0 ≤ s ∧ s ≤ 6 ∧ (s = 0 ∨ m.tmod 10 ≠ 0)) := by simp [Sp.valid]
theorem valid_ok {m s : Int} (h : Sp.valid m s = true) : Sp.ok m s = true := by
  have := valid_iff.1 h; exact ok_iff.2 ⟨by omega, by omega, by omega, by omega⟩
theorem val_pow (m s : Int) : Sp.val m s = m * 10 ^ (6 - s).toNat := rfl
theorem rOk_iff {n s : Int} : Sp.rOk n s = true ↔ ((Sp.gd 13 n s).2 ≤ 6 ∧ -1000000000000000 < (Sp.gd 13 n s).1 ∧ (Sp.gd 13 n s).1 < 1000000000000000) := by simp [Sp.rOk]
/-- a sound decimal, told in millionths, is itself. -/
theorem gd_valid {m s : Int} (h : Sp.valid m s = true) : Sp.gd 13 (Sp.val m s) 6 = (m, s) := by
  obtain ⟨h1, h2, h3, h4, h5⟩ := valid_iff.1 h
  rw [val_pow]
  obtain ⟨k, hk⟩ : ∃ k : Nat, (6 - s).toNat = k := ⟨_, rfl⟩
  have e := gd_tens (13 - k) m s h3 k
  rw [show 13 - k + k = 13 by omega, show s + (k : Int) = 6 by omega] at e
  rw [hk, e]
  exact gd_stop _ _ _ h5 h3
theorem res_valid {m s : Int} (h : Sp.valid m s = true) : Sp.rOk (Sp.val m s) 6 = true ∧ Sp.rM (Sp.val m s) 6 = m ∧ Sp.rS (Sp.val m s) 6 = s := by
  obtain ⟨h1, h2, h3, h4, h5⟩ := valid_iff.1 h
  have e := gd_valid h
  have ho : Sp.rOk (Sp.val m s) 6 = true := rOk_iff.2 (by rw [e]; exact ⟨h4, h1, h2⟩)
  exact ⟨ho, by unfold Sp.rM; rw [if_pos ho, e], by unfold Sp.rS; rw [if_pos ho, e]⟩
theorem res_some {n : Int} (h : Sp.rOk n 6 = true) : Sp.valid (Sp.rM n 6) (Sp.rS n 6) = true ∧ Sp.val (Sp.rM n 6) (Sp.rS n 6) = n := by
  obtain ⟨h1, h2, h3⟩ := rOk_iff.1 h
  obtain ⟨g1, g2, g3⟩ := gd_end 13 n 6 (by omega) (by omega)
  unfold Sp.rM Sp.rS
  rw [if_pos h, if_pos h]
  refine ⟨valid_iff.2 ⟨h2, h3, g2, h1, g1⟩, ?_⟩
  rw [gd_val 13 n 6 (by omega) (by omega)]
  show n * 10 ^ 0 = n
  simp
theorem res_none {n s : Int} (h : Sp.rOk n s = false) : Sp.rM n s = 0 ∧ Sp.rS n s = 0 := by
  unfold Sp.rM Sp.rS
  rw [h]; exact ⟨rfl, rfl⟩
theorem good_valid (a b : Int) : Sp.valid (Sp.gM a b) (Sp.gS a b) = true := valid_iff.2 (good_ok a b)
theorem decRes_ok {n s : Int} (h : Sp.rOk n s = true) : decRes n s = .tuple ⟨[decV (Sp.gd 13 n s).1 (Sp.gd 13 n s).2, .bool true]⟩ := by
  unfold decRes Sp.rM Sp.rS; rw [h]; rfl
theorem decRes_no {n s : Int} (h : Sp.rOk n s = false) : decRes n s = .tuple ⟨[decV 0 0, .bool false]⟩ := by
  unfold decRes Sp.rM Sp.rS; rw [h]; rfl
/-- more digits behind the point say the same. -/
theorem res_scale {n s : Int} (k : Nat) (h0 : 0 ≤ s) (h1 : s + k ≤ 12) : decRes (n * 10 ^ k) (s + k) = decRes n s := by
  have e : Sp.gd 13 (n * 10 ^ k) (s + k) = Sp.gd 13 n s := by
    have e := gd_tens (13 - k) n s h0 k
    rw [show 13 - k + k = 13 by omega] at e
    rw [e]
    have := gd_fuel (13 - k) n s k h0 (by omega)
    rw [show 13 - k + k = 13 by omega] at this
    exact this.symm
  unfold decRes Sp.rM Sp.rS Sp.rOk
  rw [e]

end
end Go.Proofs.YtpnjbagpplodjaaDoor
