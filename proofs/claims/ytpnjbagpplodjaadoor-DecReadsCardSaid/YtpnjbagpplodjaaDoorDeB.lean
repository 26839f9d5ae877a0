/- Contracts: sound decimals, wide numbers. -/
import Derived.Test.YtpnjbagpplodjaaDoorDeA
namespace Go.Proofs.YtpnjbagpplodjaaDoor
open Go.RowKit Go.Am
set_option maxRecDepth 1000000
set_option linter.unusedSimpArgs false
set_option linter.unusedVariables false
noncomputable section
/-! ### sound decimals, out of raw numbers -/
theorem gd_ok : ∀ (n : Nat) (m s : Int), -1000000000000000 < m → m < 1000000000000000 → 0 ≤ s → s ≤ n →
    -1000000000000000 < (Sp.gd n m s).1 ∧ (Sp.gd n m s).1 < 1000000000000000 ∧ 0 ≤ (Sp.gd n m s).2 ∧ (Sp.gd n m s).2 ≤ s ∧ ((Sp.gd n m s).2 = 0 ∨ (Sp.gd n m s).1.tmod 10 ≠ 0) := by
  intro n
  induction n with
  | zero => intro m s h1 h2 h3 h4; exact ⟨h1, h2, h3, Int.le_refl s, .inl (by show s = 0; omega)⟩
  | succ n ih =>
    intro m s h1 h2 h3 h4
    unfold Sp.gd
    split
    · rename_i h
      have hd : m.tdiv 10 * 10 = m := by have := Int.tmod_add_mul_tdiv m 10; omega
      obtain ⟨a, b, c, d, e⟩ := ih (m.tdiv 10) (s - 1) (by omega) (by omega) (by omega) (by omega)
      exact ⟨a, b, c, by omega, e⟩
    · rename_i h
      refine ⟨h1, h2, h3, Int.le_refl s, ?_⟩
      by_cases hs : 0 < s
      · exact .inr fun e => h ⟨hs, e⟩
      · exact .inl (by show s = 0; omega)
theorem tmod_range (a : Int) : -1000000000000000 < a.tmod 1000000000000000 ∧ a.tmod 1000000000000000 < 1000000000000000 := by
  have := mod_cases a 1000000000000000 (by omega)
  omega
theorem good_ok (a b : Int) : -1000000000000000 < Sp.gM a b ∧ Sp.gM a b < 1000000000000000 ∧ 0 ≤ Sp.gS a b ∧ Sp.gS a b ≤ 6 ∧ (Sp.gS a b = 0 ∨ (Sp.gM a b).tmod 10 ≠ 0) := by
  have hb0 := Int.emod_nonneg b (show (7 : Int) ≠ 0 by omega)
  have hb1 := Int.emod_lt_of_pos b (show (0 : Int) < 7 by omega)
  obtain ⟨h1, h2⟩ := tmod_range a
  obtain ⟨x1, x2, x3, x4, x5⟩ := gd_ok 7 (a.tmod 1000000000000000) (b % 7) h1 h2 hb0 (by omega)
  exact ⟨x1, x2, x3, by unfold Sp.gS; omega, x5⟩
theorem good_loop : ∀ (n : Nat) (m x : Int) (k : Nat), -1000000000000000 < m → m < 1000000000000000 → 0 ≤ x → x ≤ 7 → x ≤ n → n < k →
    ∃ tp, (ltow Tryd.prog (fiAt fis 13) (kcall [(24, withinS)]) none k).lp (codeAt (code 13) [1, 1, 1, 0, 0, 0]) (st13_3_0 m x 0 0) = some (.exit 0, ex13_0 (Sp.gd n m x).1 (Sp.gd n m x).2 0 0 tp) := by
  intro n
  induction n with
  | zero =>
    intro m x k h1 h2 h3 h7 h4 hk
    obtain ⟨k, rfl⟩ : ∃ j, k = j + 1 := ⟨k - 1, by omega⟩
    rw [← ob_id ((ltow ..).lp _ _), lp_round, R13_3_0]
    rw [ite2_neg (by rw [gtI_dec]; simp; omega)]
    exact ⟨_, rfl⟩
  | succ n ih =>
    intro m x k h1 h2 h3 h7 h4 hk
    obtain ⟨k, rfl⟩ : ∃ j, k = j + 1 := ⟨k - 1, by omega⟩
    rw [← ob_id ((ltow ..).lp _ _), lp_round, R13_3_0]
    unfold Sp.gd
    by_cases hx : 0 < x
    · rw [ite2_pos (by rw [gtI_dec]; simp; exact hx)]
      by_cases hm : m.tmod 10 = 0
      · rw [ite2_pos (by rw [eqI_dec]; simp; exact hm), if_pos ⟨hx, hm⟩, ob_id]
        have hd : m.tdiv 10 * 10 = m := by have := Int.tmod_add_mul_tdiv m 10; omega
        rw [wrapA_i64 (by omega) (by omega), wrapA_i64 (by show _ ≤ x - 1; omega) (by show x - 1 < _; omega)]
        exact ih (m.tdiv 10) (x - 1) k (by omega) (by omega) (by omega) (by omega) (by omega) (by omega)
      · rw [ite2_neg (by rw [eqI_dec]; simp; exact hm), if_neg (fun h => hm h.2)]
        exact ⟨_, rfl⟩
    · rw [ite2_neg (by rw [gtI_dec]; simp; omega), if_neg (fun h => hx h.1)]
      exact ⟨_, rfl⟩
theorem good_h : Holds Tryd.prog (13, goodS) := holds_of_K masks (s := [(24, withinS)]) (fun x h => by rw [List.mem_singleton.1 h]; exact within_h) none Tryd.func13 (by kernel_rfl) (c := code 13) (by kernel_rfl) (rs := res 13) (by kernel_rfl) (by kernel_rfl) fun args v hG => by
  obtain ⟨⟨a, b⟩, h1, h⟩ := ob_some hG
  obtain ⟨-, rfl⟩ := Prod.mk.inj (Option.some.inj h)
  rw [i2_some h1]
  refine ⟨rfl, rfl, rfl, 8, ?_⟩
  have hb0 := Int.emod_nonneg b (show (7 : Int) ≠ 0 by omega)
  have hb1 := Int.emod_lt_of_pos b (show (0 : Int) < 7 by omega)
  obtain ⟨h1, h2⟩ := tmod_range a
  obtain ⟨tp, hl⟩ := good_loop 7 (a.tmod 1000000000000000) (b % 7) 8 h1 h2 hb0 (by omega) (by omega) (by omega)
  refine (K13 a b _ _).trans ?_
  rw [show Int.emod b 7 = b % 7 from rfl, show masks.l = fis from rfl, hl, ob_of]
  exact C13_0_0 _ _ _ _ _ _ _
/-! ### held against one another -/
theorem tsplit (m k : Int) (hk : 0 < k) : m = k * m.tdiv k + m.tmod k ∧ -k < m.tmod k ∧ m.tmod k < k ∧ (0 ≤ m → 0 ≤ m.tmod k ∧ 0 ≤ m.tdiv k) ∧ (m ≤ 0 → m.tmod k ≤ 0 ∧ m.tdiv k ≤ 0) := by
  have h1 := Int.tmod_add_mul_tdiv m k
  obtain ⟨_, _, h2, h3⟩ := mod_cases m k hk
  refine ⟨by omega, h2, h3, fun h => ⟨Int.tmod_nonneg k h, Int.tdiv_nonneg h (by omega)⟩, fun h => ?_⟩
  have e1 : m.tmod k = -((-m).tmod k) := by rw [Int.neg_tmod]; omega
  have e2 : m.tdiv k = -((-m).tdiv k) := by rw [Int.neg_tdiv]; omega
  have := Int.tmod_nonneg k (show 0 ≤ -m by omega)
  have := Int.tdiv_nonneg (show 0 ≤ -m by omega) (show 0 ≤ k by omega)
  omega
theorem ok_iff {m s : Int} : Sp.ok m s = true ↔ (-1000000000000000 < m ∧ m < 1000000000000000 ∧ 0 ≤ s ∧ s ≤ 6) := by simp [Sp.ok]
theorem in6_of {s : Int} (h1 : 0 ≤ s) (h2 : s ≤ 6) : Sp.in6 s = true := by simp [Sp.in6]; omega
theorem p10_range (n : Int) (hn : Sp.in6 n = true) : 1 ≤ Sp.p10 n ∧ Sp.p10 n ≤ 1000000 := by
  refine six (p := fun n => 1 ≤ Sp.p10 n ∧ Sp.p10 n ≤ 1000000) (fun i => ?_) n hn
  match i with
  | 0 => exact ⟨by decide, by decide⟩
  | 1 => exact ⟨by decide, by decide⟩
  | 2 => exact ⟨by decide, by decide⟩
  | 3 => exact ⟨by decide, by decide⟩
  | 4 => exact ⟨by decide, by decide⟩
  | 5 => exact ⟨by decide, by decide⟩
  | 6 => exact ⟨by decide, by decide⟩
/-- a decimal's whole part, and what is behind the point, in millionths. -/
theorem dec_split (m s : Int) (hs : Sp.in6 s = true) : Sp.val m s = 1000000 * m.tdiv (Sp.p10 s) + m.tmod (Sp.p10 s) * Sp.p10 (6 - s) ∧ -1000000 < m.tmod (Sp.p10 s) * Sp.p10 (6 - s) ∧ m.tmod (Sp.p10 s) * Sp.p10 (6 - s) < 1000000 ∧
    (0 < m.tdiv (Sp.p10 s) → 0 ≤ m.tmod (Sp.p10 s) * Sp.p10 (6 - s)) ∧ (m.tdiv (Sp.p10 s) < 0 → m.tmod (Sp.p10 s) * Sp.p10 (6 - s) ≤ 0) := by
  revert m
  refine six (p := fun s => ∀ m, Sp.val m s = 1000000 * m.tdiv (Sp.p10 s) + m.tmod (Sp.p10 s) * Sp.p10 (6 - s) ∧ -1000000 < m.tmod (Sp.p10 s) * Sp.p10 (6 - s) ∧ m.tmod (Sp.p10 s) * Sp.p10 (6 - s) < 1000000 ∧
    (0 < m.tdiv (Sp.p10 s) → 0 ≤ m.tmod (Sp.p10 s) * Sp.p10 (6 - s)) ∧ (m.tdiv (Sp.p10 s) < 0 → m.tmod (Sp.p10 s) * Sp.p10 (6 - s) ≤ 0)) (fun i m => ?_) s hs
  match i with
  | 0 =>
    have h := tsplit m 1 (by omega)
    show m * 1000000 = 1000000 * m.tdiv 1 + m.tmod 1 * 1000000 ∧ -1000000 < m.tmod 1 * 1000000 ∧ m.tmod 1 * 1000000 < 1000000 ∧ (0 < m.tdiv 1 → 0 ≤ m.tmod 1 * 1000000) ∧ (m.tdiv 1 < 0 → m.tmod 1 * 1000000 ≤ 0)
    omega
  | 1 =>
    have h := tsplit m 10 (by omega)
    show m * 100000 = 1000000 * m.tdiv 10 + m.tmod 10 * 100000 ∧ -1000000 < m.tmod 10 * 100000 ∧ m.tmod 10 * 100000 < 1000000 ∧ (0 < m.tdiv 10 → 0 ≤ m.tmod 10 * 100000) ∧ (m.tdiv 10 < 0 → m.tmod 10 * 100000 ≤ 0)
    omega
  | 2 =>
    have h := tsplit m 100 (by omega)
    show m * 10000 = 1000000 * m.tdiv 100 + m.tmod 100 * 10000 ∧ -1000000 < m.tmod 100 * 10000 ∧ m.tmod 100 * 10000 < 1000000 ∧ (0 < m.tdiv 100 → 0 ≤ m.tmod 100 * 10000) ∧ (m.tdiv 100 < 0 → m.tmod 100 * 10000 ≤ 0)
    omega
  | 3 =>
    have h := tsplit m 1000 (by omega)
    show m * 1000 = 1000000 * m.tdiv 1000 + m.tmod 1000 * 1000 ∧ -1000000 < m.tmod 1000 * 1000 ∧ m.tmod 1000 * 1000 < 1000000 ∧ (0 < m.tdiv 1000 → 0 ≤ m.tmod 1000 * 1000) ∧ (m.tdiv 1000 < 0 → m.tmod 1000 * 1000 ≤ 0)
    omega
  | 4 =>
    have h := tsplit m 10000 (by omega)
    show m * 100 = 1000000 * m.tdiv 10000 + m.tmod 10000 * 100 ∧ -1000000 < m.tmod 10000 * 100 ∧ m.tmod 10000 * 100 < 1000000 ∧ (0 < m.tdiv 10000 → 0 ≤ m.tmod 10000 * 100) ∧ (m.tdiv 10000 < 0 → m.tmod 10000 * 100 ≤ 0)
    omega
  | 5 =>
    have h := tsplit m 100000 (by omega)
    show m * 10 = 1000000 * m.tdiv 100000 + m.tmod 100000 * 10 ∧ -1000000 < m.tmod 100000 * 10 ∧ m.tmod 100000 * 10 < 1000000 ∧ (0 < m.tdiv 100000 → 0 ≤ m.tmod 100000 * 10) ∧ (m.tdiv 100000 < 0 → m.tmod 100000 * 10 ≤ 0)
    omega
  | 6 =>
    have h := tsplit m 1000000 (by omega)
    show m * 1 = 1000000 * m.tdiv 1000000 + m.tmod 1000000 * 1 ∧ -1000000 < m.tmod 1000000 * 1 ∧ m.tmod 1000000 * 1 < 1000000 ∧ (0 < m.tdiv 1000000 → 0 ≤ m.tmod 1000000 * 1) ∧ (m.tdiv 1000000 < 0 → m.tmod 1000000 * 1 ≤ 0)
    omega
theorem times_h : Holds Tryd.prog (60, timesS) := holds_of_K masks (s := []) (fun _ h => by cases h) none Tryd.func60 (by kernel_rfl) (c := code 60) (by kernel_rfl) (rs := res 60) (by kernel_rfl) (by kernel_rfl) fun args v hG => by
  obtain ⟨⟨m, p⟩, h1, h⟩ := ob_some hG
  obtain ⟨hp, rfl⟩ := Prod.mk.inj (Option.some.inj h)
  rw [i2_some h1]
  refine ⟨rfl, rfl, rfl, 0, (K60 m p _ _).trans ?_⟩
  simp only [Sp.in15, Sp.in9, Bool.and_eq_true, decide_eq_true_eq] at hp
  obtain ⟨⟨m0, m1⟩, p0, p1⟩ := hp
  have hq := tsplit m 1000000000 (by omega)
  have b1 : 0 ≤ m.tmod 1000000000 * p := Int.mul_nonneg (by omega) p0
  have b2 : m.tmod 1000000000 * p ≤ 999999999 * 1000000000 := Int.mul_le_mul (by omega) p1 p0 (by omega)
  have b3 : 0 ≤ m.tdiv 1000000000 * p := Int.mul_nonneg (by omega) p0
  have b4 : m.tdiv 1000000000 * p ≤ 1000000 * 1000000000 := Int.mul_le_mul (by omega) p1 p0 (by omega)
  have e : m * p = 1000000000 * (m.tdiv 1000000000 * p) + m.tmod 1000000000 * p := by
    have : m * p = (1000000000 * m.tdiv 1000000000 + m.tmod 1000000000) * p := by rw [← hq.1]
    rw [this, Int.add_mul, Int.mul_assoc]
  show some (decV (wrapA .i64 (wrapA .i64 (wrapA .i64 (m.tdiv 1000000000) * p) + wrapA .i64 ((wrapA .i64 (m.tmod 1000000000 * p)).tdiv 1000000000))) ((wrapA .i64 (m.tmod 1000000000 * p)).tmod 1000000000)) = some (decV ((m * p).tdiv 1000000000) ((m * p).tmod 1000000000))
  rw [wrapA_i64 (x := m.tdiv 1000000000) (by omega) (by omega), wrapA_i64 (x := m.tmod 1000000000 * p) (by omega) (by omega), wrapA_i64 (x := m.tdiv 1000000000 * p) (by omega) (by omega)]
  generalize hu : m.tdiv 1000000000 * p = u at *
  generalize hv : m.tmod 1000000000 * p = v at *
  have hw := tsplit v 1000000000 (by omega)
  have hz := tsplit (m * p) 1000000000 (by omega)
  rw [wrapA_i64 (x := v.tdiv 1000000000) (by omega) (by omega), wrapA_i64 (by omega) (by omega)]
  have hmp : 0 ≤ m * p := by omega
  have g1 : u + v.tdiv 1000000000 = (m * p).tdiv 1000000000 := by omega
  have g2 : v.tmod 1000000000 = (m * p).tmod 1000000000 := by omega
  rw [g1, g2]
theorem sized_h : Holds Tryd.prog (38, sizedS) := holds_of_K masks (s := [(61, tenS), (60, timesS)]) (fun x h => by
    simp only [List.mem_cons, List.not_mem_nil, or_false] at h
    rcases h with rfl | rfl
    · exact power_h
    · exact times_h) none Tryd.func38 (by kernel_rfl) (c := code 38) (by kernel_rfl) (rs := res 38) (by kernel_rfl) (by kernel_rfl) fun args v hG => by
  obtain ⟨⟨m, s⟩, h1, h⟩ := ob_some hG
  obtain ⟨hp, rfl⟩ := Prod.mk.inj (Option.some.inj h)
  rw [d1_some h1]
  refine ⟨rfl, rfl, rfl, 0, (K38 m s _ _).trans ?_⟩
  obtain ⟨m0, m1, s0, s1⟩ := ok_iff.1 hp
  have h6 : Sp.in6 (6 - s) = true := in6_of (by omega) (by omega)
  obtain ⟨p0, p1⟩ := p10_range (6 - s) h6
  have h9 : Sp.in9 (Sp.p10 (6 - s)) = true := by simp [Sp.in9]; omega
  rw [show Int.sub 6 s = 6 - s from rfl, wrapA_i64 (x := 6 - s) (by omega) (by omega), show Int.sub 0 m = 0 - m from rfl, wrapA_i64 (x := 0 - m) (by omega) (by omega)]
  rw [h6, h9]
  simp only [ite2_true, ite2_and, Bool.and_true]
  unfold Sp.absv
  by_cases hm : m < 0
  · rw [ite2_pos (by rw [ltI_eq]; simpa using hm), ite2_pos (show Sp.in15 (0 - m) = true by simp [Sp.in15]; omega), if_pos hm, show 0 - m = -m from by omega]; rfl
  · rw [ite2_neg (by rw [ltI_eq]; simpa using hm), ite2_pos (show Sp.in15 m = true by simp [Sp.in15]; omega), if_neg hm]; rfl

end
end Go.Proofs.YtpnjbagpplodjaaDoor
