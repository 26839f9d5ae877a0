/- Contracts: what holds two decimals against one another. -/
import Derived.Test.YtpnjbagpplodjaaDoorDeB
namespace Go.Proofs.YtpnjbagpplodjaaDoor
open Go.RowKit Go.Am
set_option maxRecDepth 1000000
set_option linter.unusedSimpArgs false
set_option linter.unusedVariables false
noncomputable section
theorem neg_one : Int.negSucc 0 = (-1 : Int) := rfl
theorem above_h : Holds Tryd.prog (39, aboveS) := holds_of_K masks (s := []) (fun _ h => by cases h) none Tryd.func39 (by kernel_rfl) (c := code 39) (by kernel_rfl) (rs := res 39) (by kernel_rfl) (by kernel_rfl) fun args v hG => by
  obtain ⟨⟨⟨a, b⟩, c, d⟩, h1, h⟩ := ob_some hG
  obtain ⟨hp, rfl⟩ := Prod.mk.inj (Option.some.inj h)
  rw [d2_some h1]
  refine ⟨rfl, rfl, rfl, 0, (K39 a b c d _ _).trans ?_⟩
  simp only [Sp.wid, Bool.and_eq_true, decide_eq_true_eq] at hp
  simp only [ite2_and]
  simp only [ltI_eq, eqI_dec, ite2_if, Bool.and_eq_true, decide_eq_true_eq, neg_one, Sp.cmp, Sp.wide, and_true]
  repeat' split
  all_goals simp only [Option.some.injEq, Value.int.injEq, true_and]
  all_goals (repeat' split)
  all_goals omega
theorem cmp_neg (x y : Int) : Sp.cmp (-y) (-x) = Sp.cmp x y := by
  unfold Sp.cmp; repeat' split
  all_goals first | rfl | (exfalso; omega)
theorem absv_val (m s : Int) : Sp.absv m s = if m < 0 then -(Sp.val m s) else Sp.val m s := by
  unfold Sp.absv Sp.val
  split
  · rw [Int.neg_mul]
  · rfl
theorem val_sign (m s : Int) (hs : Sp.in6 s = true) : (m < 0 → Sp.val m s < 0) ∧ (0 ≤ m → 0 ≤ Sp.val m s) := by
  have hs' : 0 ≤ s ∧ s ≤ 6 := by simpa [Sp.in6] using hs
  have hp := p10_range (6 - s) (in6_of (by omega) (by omega))
  unfold Sp.val
  exact ⟨fun h => Int.mul_neg_of_neg_of_pos h (by omega), fun h => Int.mul_nonneg h (by omega)⟩
theorem absv_range (m s : Int) (h : Sp.ok m s = true) : 0 ≤ Sp.absv m s ∧ Sp.absv m s ≤ 999999999999999 * 1000000 := by
  obtain ⟨m0, m1, s0, s1⟩ := ok_iff.1 h
  have hp := p10_range (6 - s) (in6_of (by omega) (by omega))
  unfold Sp.absv
  split
  · exact ⟨Int.mul_nonneg (by omega) (by omega), Int.mul_le_mul (by omega) (by omega) (by omega) (by omega)⟩
  · exact ⟨Int.mul_nonneg (by omega) (by omega), Int.mul_le_mul (by omega) (by omega) (by omega) (by omega)⟩
theorem wide_of (x : Int) (h0 : 0 ≤ x) (h1 : x ≤ 999999999999999 * 1000000) : Sp.wid (x.tdiv 1000000000) (x.tmod 1000000000) = true ∧ Sp.wide (x.tdiv 1000000000) (x.tmod 1000000000) = x := by
  have h := tsplit x 1000000000 (by omega)
  have h2 := h.2.2.2.1 h0
  exact ⟨by simp only [Sp.wid, decide_eq_true_eq]; omega, by unfold Sp.wide; omega⟩
theorem refcmp_h : Holds Tryd.prog (15, cmpS) := holds_of_K masks (s := [(38, sizedS), (39, aboveS)]) (fun x h => by
    simp only [List.mem_cons, List.not_mem_nil, or_false] at h
    rcases h with rfl | rfl
    · exact sized_h
    · exact above_h) none Tryd.func15 (by kernel_rfl) (c := code 15) (by kernel_rfl) (rs := res 15) (by kernel_rfl) (by kernel_rfl) fun args v hG => by
  obtain ⟨⟨⟨m, s⟩, n, t⟩, h1, h⟩ := ob_some hG
  obtain ⟨hp, rfl⟩ := Prod.mk.inj (Option.some.inj h)
  rw [d2_some h1]
  refine ⟨rfl, rfl, rfl, 0, (K15 m s n t _ _).trans ?_⟩
  rw [Bool.and_eq_true] at hp
  simp only at hp ⊢
  obtain ⟨ha, hb⟩ := hp
  obtain ⟨a0, a1⟩ := absv_range m s ha
  obtain ⟨b0, b1⟩ := absv_range n t hb
  obtain ⟨a2, a3⟩ := wide_of _ a0 a1
  obtain ⟨b2, b3⟩ := wide_of _ b0 b1
  obtain ⟨_, _, s0, s1⟩ := ok_iff.1 ha
  obtain ⟨_, _, t0, t1⟩ := ok_iff.1 hb
  have va := val_sign m s (in6_of s0 s1)
  have vb := val_sign n t (in6_of t0 t1)
  rw [a3, b3, a2, b2, ha, hb, absv_val, absv_val]
  simp only [ltI_eq, ite2_and, ite2_true, ite2_if, decide_eq_true_eq, neg_one, Bool.and_true, if_true, Bool.true_eq_false]
  by_cases hm : m < 0 <;> by_cases hn : n < 0 <;> simp only [hm, hn, if_true, if_false, Bool.false_eq_true]
  · rw [cmp_neg]
  · have := va.1 hm; have := vb.2 (by omega); unfold Sp.cmp; rw [if_pos (by omega)]
  · have := va.2 (by omega); have := vb.1 hn; unfold Sp.cmp; rw [if_neg (by omega), if_neg (by omega)]
theorem cmp_h : Holds Tryd.prog (14, cmpS) := holds_of_K masks (s := [(37, tenS)]) (fun x h => by rw [List.mem_singleton.1 h]; exact ten_h) none Tryd.func14 (by kernel_rfl) (c := code 14) (by kernel_rfl) (rs := res 14) (by kernel_rfl) (by kernel_rfl) fun args v hG => by
  obtain ⟨⟨⟨m, s⟩, n, t⟩, h1, h⟩ := ob_some hG
  obtain ⟨hp, rfl⟩ := Prod.mk.inj (Option.some.inj h)
  rw [d2_some h1]
  refine ⟨rfl, rfl, rfl, 0, (K14 m s n t _ _).trans ?_⟩
  rw [Bool.and_eq_true] at hp
  simp only at hp ⊢
  obtain ⟨ha, hb⟩ := hp
  obtain ⟨m0, m1, s0, s1⟩ := ok_iff.1 ha
  obtain ⟨n0, n1, t0, t1⟩ := ok_iff.1 hb
  have hs := in6_of s0 s1
  have ht := in6_of t0 t1
  have hs' : Sp.in6 (6 - s) = true := in6_of (by omega) (by omega)
  have ht' : Sp.in6 (6 - t) = true := in6_of (by omega) (by omega)
  have ps := p10_range s hs
  have pt := p10_range t ht
  have ms := dec_split m s hs
  have mt := dec_split n t ht
  have qs := tsplit m (Sp.p10 s) (by omega)
  have qt := tsplit n (Sp.p10 t) (by omega)
  have bs : -1000000000000000 < m.tdiv (Sp.p10 s) ∧ m.tdiv (Sp.p10 s) < 1000000000000000 := by
    have := Int.natAbs_tdiv_le_natAbs m (Sp.p10 s); omega
  have bt' : -1000000000000000 < n.tdiv (Sp.p10 t) ∧ n.tdiv (Sp.p10 t) < 1000000000000000 := by
    have := Int.natAbs_tdiv_le_natAbs n (Sp.p10 t); omega
  have es : Sp.in6 s = true := hs
  rw [show Int.sub 6 s = 6 - s from rfl, show Int.sub 6 t = 6 - t from rfl, wrapA_i64 (x := 6 - s) (by omega) (by omega), wrapA_i64 (x := 6 - t) (by omega) (by omega)]
  rw [wrapA_i64 (x := m.tdiv (Sp.p10 s)) (by omega) (by omega), wrapA_i64 (x := n.tdiv (Sp.p10 t)) (by omega) (by omega)]
  rw [show Int.mul (m.tmod (Sp.p10 s)) (Sp.p10 (6 - s)) = m.tmod (Sp.p10 s) * Sp.p10 (6 - s) from rfl, show Int.mul (n.tmod (Sp.p10 t)) (Sp.p10 (6 - t)) = n.tmod (Sp.p10 t) * Sp.p10 (6 - t) from rfl]
  rw [wrapA_i64 (x := m.tmod (Sp.p10 s) * Sp.p10 (6 - s)) (by omega) (by omega), wrapA_i64 (x := n.tmod (Sp.p10 t) * Sp.p10 (6 - t)) (by omega) (by omega)]
  have zs : eqI (Sp.p10 s) 0 = false := by rw [eqI_dec]; simp; omega
  have zt : eqI (Sp.p10 t) 0 = false := by rw [eqI_dec]; simp; omega
  rw [hs, ht, hs', ht', zs, zt]
  simp only [eqI_self, ite2_true, ite2_false]
  simp only [ltI_eq, eqI_dec, gtI_dec, ite2_if, decide_eq_true_eq, neg_one, Sp.cmp]
  rw [ms.1, mt.1]
  generalize m.tdiv (Sp.p10 s) = q at *
  generalize n.tdiv (Sp.p10 t) = q' at *
  generalize m.tmod (Sp.p10 s) * Sp.p10 (6 - s) = r at *
  generalize n.tmod (Sp.p10 t) * Sp.p10 (6 - t) = r' at *
  repeat' split
  all_goals simp only [Option.some.injEq, Value.int.injEq, true_and]
  all_goals (repeat' split)
  all_goals omega

end
end Go.Proofs.YtpnjbagpplodjaaDoor
