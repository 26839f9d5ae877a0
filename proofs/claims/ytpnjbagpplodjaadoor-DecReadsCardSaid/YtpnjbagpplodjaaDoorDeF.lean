/- Contracts: whole numbers made decimals by the program. -/
import Derived.Test.YtpnjbagpplodjaaDoorDeE
namespace Go.Proofs.YtpnjbagpplodjaaDoor
open Go.RowKit Go.Am
set_option maxRecDepth 1000000
set_option linter.unusedSimpArgs false
set_option linter.unusedVariables false
noncomputable section
/-! ### whole numbers, made decimals by the program -/
theorem whole_stop {lo x : Int} {below : Bool} (hst : x = 0 ∨ lo.tmod 10 ≠ 0) (h3 : 0 ≤ x) : Sp.gd 13 (Sp.sg below lo) x = (Sp.sg below lo, x) := by
  refine gd_stop _ _ _ ?_ h3
  rcases hst with h | h
  · exact .inl h
  · refine .inr ?_
    unfold Sp.sg
    cases below
    · exact h
    · show (-lo).tmod 10 ≠ 0
      rw [Int.neg_tmod]; omega
theorem whole_no {lo x : Int} {below : Bool} (hst : x = 0 ∨ lo.tmod 10 ≠ 0) (h0 : 0 ≤ lo) (h3 : 0 ≤ x) (h : 1000000000000000 ≤ lo ∨ 6 < x) : Sp.rOk (Sp.sg below lo) x = false := by
  cases ho : Sp.rOk (Sp.sg below lo) x with
  | false => rfl
  | true =>
    have := rOk_iff.1 ho
    rw [whole_stop hst h3] at this
    simp only [Sp.sg] at this
    split at this <;> omega
theorem whole_yes {lo x : Int} {below : Bool} (hst : x = 0 ∨ lo.tmod 10 ≠ 0) (h0 : 0 ≤ lo) (h3 : 0 ≤ x) (h1 : lo < 1000000000000000) (h6 : x ≤ 6) : Sp.rOk (Sp.sg below lo) x = true ∧ Sp.rM (Sp.sg below lo) x = Sp.sg below lo ∧ Sp.rS (Sp.sg below lo) x = x := by
  have e := whole_stop (below := below) hst h3
  have ho : Sp.rOk (Sp.sg below lo) x = true := rOk_iff.2 (by
    rw [e]
    simp only [Sp.sg]
    split <;> omega)
  exact ⟨ho, by unfold Sp.rM; rw [if_pos ho, e], by unfold Sp.rS; rw [if_pos ho, e]⟩
theorem gd_sg (n : Nat) (b : Bool) (m s : Int) : Sp.gd n (Sp.sg b m) s = (Sp.sg b (Sp.gd n m s).1, (Sp.gd n m s).2) := by
  cases b
  · rfl
  · exact gd_neg n m s
theorem res_ten {lo x : Int} {below : Bool} (hx : 0 < x) (h12 : x ≤ 12) (hm : lo.tmod 10 = 0) : Sp.rOk (Sp.sg below lo) x = Sp.rOk (Sp.sg below (lo.tdiv 10)) (x - 1) ∧ Sp.rM (Sp.sg below lo) x = Sp.rM (Sp.sg below (lo.tdiv 10)) (x - 1) ∧ Sp.rS (Sp.sg below lo) x = Sp.rS (Sp.sg below (lo.tdiv 10)) (x - 1) := by
  have e : Sp.gd 13 (Sp.sg below lo) x = Sp.gd 13 (Sp.sg below (lo.tdiv 10)) (x - 1) := by
    rw [gd_sg, gd_sg]
    have h1 : Sp.gd 13 lo x = Sp.gd 12 (lo.tdiv 10) (x - 1) := by
      conv => lhs; unfold Sp.gd
      rw [if_pos ⟨hx, hm⟩]
    have h2 := gd_fuel 12 (lo.tdiv 10) (x - 1) 1 (by omega) (by omega)
    rw [h1, ← h2]
  unfold Sp.rM Sp.rS Sp.rOk
  rw [e]
  exact ⟨rfl, rfl, rfl⟩
abbrev s33 : List KSpec := [(48, div64S), (40, pointS), (47, ofS)]
theorem dv0 (lo : Int) (h0 : 0 ≤ lo) (h1 : lo < 4611686018427387904) : Sp.dvOk (Int.tmod 0 10) lo 10 = true ∧ Sp.dvR (Int.tmod 0 10) lo 10 = lo.tmod 10 ∧ Sp.dvQ (Int.tmod 0 10) lo 10 = lo.tdiv 10 := by
  have e : Int.tmod 0 10 = 0 := rfl
  rw [e]
  refine ⟨decide_eq_true ⟨rfl, h0, by omega, by omega, by omega⟩, ?_, ?_⟩
  · unfold Sp.dvR; rw [Int.tmod_eq_emod_of_nonneg h0]; congr 1; omega
  · unfold Sp.dvQ; rw [Int.tdiv_eq_ediv_of_nonneg h0]; congr 1; omega
theorem find33 : findLabel (codeAt (code 33) [1, 0]) 0 = some (restAt (codeAt (code 33) [1, 0]) 0) := by kernel_rfl
theorem whole_loop (below : Bool) : ∀ (n : Nat) (lo x : Int) (k : Nat), 0 ≤ lo → lo < 4611686018427387904 → 0 ≤ x → x ≤ 12 → x ≤ n → n < k →
    ∃ a b c tp, (ltow Tryd.prog (fiAt fis 33) (kcall s33) none k).gs (codeAt (code 33) [1, 0]) 0 (st33_100001_0 0 lo below false x 0 0) =
      some (.ret, ex33_0 a b below (Sp.rOk (Sp.sg below lo) x) c (Sp.rM (Sp.sg below lo) x) (Sp.rS (Sp.sg below lo) x) tp) := by
  intro n
  induction n with
  | zero =>
    intro lo x k h0 h1 h3 h7 h4 hk
    obtain ⟨k, rfl⟩ : ∃ j, k = j + 1 := ⟨k - 1, by omega⟩
    rw [← ob_id ((ltow ..).gs _ _ _), gs_round find33, R33_100001_0]
    rw [ite2_neg (show gtI x 0 = false from by rw [gtI_dec]; simp; omega)]
    have hst : x = 0 ∨ lo.tmod 10 ≠ 0 := .inl (by omega)
    rw [ite2_neg (show gtI 0 0 = false from by rw [gtI_dec]; rfl)]
    by_cases hb : 1000000000000000 ≤ lo
    · have ho : Sp.rOk (Sp.sg below lo) x = false := whole_no hst h0 h3 (.inl hb)
      rw [ite2_pos (show geI lo 1000000000000000 = true from by rw [geI_dec]; simpa using hb)]
      obtain ⟨z1, z2⟩ := res_none ho; exact ⟨_, _, _, _, by rw [ho, z1, z2]⟩
    rw [ite2_neg (show geI lo 1000000000000000 = false from by rw [geI_dec]; simpa using hb)]
    by_cases h6 : 6 < x
    · have ho : Sp.rOk (Sp.sg below lo) x = false := whole_no hst h0 h3 (.inr h6)
      rw [ite2_pos (show gtI x 6 = true from by rw [gtI_dec]; simpa using h6)]
      obtain ⟨z1, z2⟩ := res_none ho; exact ⟨_, _, _, _, by rw [ho, z1, z2]⟩
    rw [ite2_neg (show gtI x 6 = false from by rw [gtI_dec]; simpa using h6)]
    obtain ⟨ho, hM, hS⟩ := whole_yes (below := below) hst h0 h3 (by omega) (by omega)
    obtain ⟨f1, f2⟩ := fok_fl x (by omega) (by omega)
    cases below
    · obtain ⟨f3, f4⟩ := fok_fl lo (by omega) (by omega)
      rw [ite2_false, wrapA_i64 (x := lo) (by omega) (by omega), f3, f1, f4, f2]
      exact ⟨_, _, _, _, by rw [ho, hM, hS]; rfl⟩
    · obtain ⟨f3, f4⟩ := fok_fl (0 - lo) (by omega) (by omega)
      rw [ite2_true, wrapA_i64 (x := lo) (by omega) (by omega), show Int.sub 0 lo = 0 - lo from rfl, ← wrapA_eq, wrapA_i64 (x := 0 - lo) (by omega) (by omega), f3, f1, f4, f2, show 0 - lo = -lo by omega]
      exact ⟨_, _, _, _, by rw [ho, hM, hS]; rfl⟩
  | succ n ih =>
    intro lo x k h0 h1 h3 h7 h4 hk
    obtain ⟨k, rfl⟩ : ∃ j, k = j + 1 := ⟨k - 1, by omega⟩
    obtain ⟨d1, d2, d3⟩ := dv0 lo h0 h1
    have hsp := tsplit lo 10 (by omega)
    rw [← ob_id ((ltow ..).gs _ _ _), gs_round find33, R33_100001_0]
    by_cases hx : 0 < x
    · rw [ite2_pos (show gtI x 0 = true from by rw [gtI_dec]; simpa using hx), ite2_pos d1]
      by_cases hm : lo.tmod 10 = 0
      · rw [ite2_pos (by rw [d2, eqI_dec]; simpa using hm), ob_id, d3, show wrapA .u64 (Int.tdiv 0 10) = 0 from rfl, show Int.sub x 1 = x - 1 from rfl, wrapA_i64 (show _ ≤ x - 1 by omega) (show x - 1 < _ by omega)]
        obtain ⟨r1, r2, r3⟩ := res_ten (below := below) hx h7 hm
        rw [r1, r2, r3]
        exact ih (lo.tdiv 10) (x - 1) k (by omega) (by omega) (by omega) (by omega) (by omega) (by omega)
      · rw [ite2_neg (by rw [d2, eqI_dec]; simpa using hm)]
        have hst : x = 0 ∨ lo.tmod 10 ≠ 0 := .inr hm
        rw [ite2_neg (show gtI 0 0 = false from by rw [gtI_dec]; rfl)]
        by_cases hb : 1000000000000000 ≤ lo
        · have ho : Sp.rOk (Sp.sg below lo) x = false := whole_no hst h0 h3 (.inl hb)
          rw [ite2_pos (show geI lo 1000000000000000 = true from by rw [geI_dec]; simpa using hb)]
          obtain ⟨z1, z2⟩ := res_none ho; exact ⟨_, _, _, _, by rw [ho, z1, z2]⟩
        rw [ite2_neg (show geI lo 1000000000000000 = false from by rw [geI_dec]; simpa using hb)]
        by_cases h6 : 6 < x
        · have ho : Sp.rOk (Sp.sg below lo) x = false := whole_no hst h0 h3 (.inr h6)
          rw [ite2_pos (show gtI x 6 = true from by rw [gtI_dec]; simpa using h6)]
          obtain ⟨z1, z2⟩ := res_none ho; exact ⟨_, _, _, _, by rw [ho, z1, z2]⟩
        rw [ite2_neg (show gtI x 6 = false from by rw [gtI_dec]; simpa using h6)]
        obtain ⟨ho, hM, hS⟩ := whole_yes (below := below) hst h0 h3 (by omega) (by omega)
        obtain ⟨f1, f2⟩ := fok_fl x (by omega) (by omega)
        cases below
        · obtain ⟨f3, f4⟩ := fok_fl lo (by omega) (by omega)
          rw [ite2_false, wrapA_i64 (x := lo) (by omega) (by omega), f3, f1, f4, f2]
          exact ⟨_, _, _, _, by rw [ho, hM, hS]; rfl⟩
        · obtain ⟨f3, f4⟩ := fok_fl (0 - lo) (by omega) (by omega)
          rw [ite2_true, wrapA_i64 (x := lo) (by omega) (by omega), show Int.sub 0 lo = 0 - lo from rfl, ← wrapA_eq, wrapA_i64 (x := 0 - lo) (by omega) (by omega), f3, f1, f4, f2, show 0 - lo = -lo by omega]
          exact ⟨_, _, _, _, by rw [ho, hM, hS]; rfl⟩
    · rw [ite2_neg (show gtI x 0 = false from by rw [gtI_dec]; simpa using hx)]
      have hst : x = 0 ∨ lo.tmod 10 ≠ 0 := .inl (by omega)
      rw [ite2_neg (show gtI 0 0 = false from by rw [gtI_dec]; rfl)]
      by_cases hb : 1000000000000000 ≤ lo
      · have ho : Sp.rOk (Sp.sg below lo) x = false := whole_no hst h0 h3 (.inl hb)
        rw [ite2_pos (show geI lo 1000000000000000 = true from by rw [geI_dec]; simpa using hb)]
        obtain ⟨z1, z2⟩ := res_none ho; exact ⟨_, _, _, _, by rw [ho, z1, z2]⟩
      rw [ite2_neg (show geI lo 1000000000000000 = false from by rw [geI_dec]; simpa using hb)]
      by_cases h6 : 6 < x
      · have ho : Sp.rOk (Sp.sg below lo) x = false := whole_no hst h0 h3 (.inr h6)
        rw [ite2_pos (show gtI x 6 = true from by rw [gtI_dec]; simpa using h6)]
        obtain ⟨z1, z2⟩ := res_none ho; exact ⟨_, _, _, _, by rw [ho, z1, z2]⟩
      rw [ite2_neg (show gtI x 6 = false from by rw [gtI_dec]; simpa using h6)]
      obtain ⟨ho, hM, hS⟩ := whole_yes (below := below) hst h0 h3 (by omega) (by omega)
      obtain ⟨f1, f2⟩ := fok_fl x (by omega) (by omega)
      cases below
      · obtain ⟨f3, f4⟩ := fok_fl lo (by omega) (by omega)
        rw [ite2_false, wrapA_i64 (x := lo) (by omega) (by omega), f3, f1, f4, f2]
        exact ⟨_, _, _, _, by rw [ho, hM, hS]; rfl⟩
      · obtain ⟨f3, f4⟩ := fok_fl (0 - lo) (by omega) (by omega)
        rw [ite2_true, wrapA_i64 (x := lo) (by omega) (by omega), show Int.sub 0 lo = 0 - lo from rfl, ← wrapA_eq, wrapA_i64 (x := 0 - lo) (by omega) (by omega), f3, f1, f4, f2, show 0 - lo = -lo by omega]
        exact ⟨_, _, _, _, by rw [ho, hM, hS]; rfl⟩
theorem s33_h : ∀ x ∈ s33, Holds Tryd.prog x := by
  intro x h
  simp only [List.mem_cons, List.not_mem_nil, or_false] at h
  rcases h with rfl | rfl | rfl
  · exact div0_h
  · exact point_h
  · exact of_h
theorem whole_h : Holds Tryd.prog (33, wholeS) := holds_of_K masks (s := s33) s33_h none Tryd.func33 (by kernel_rfl) (c := code 33) (by kernel_rfl) (rs := res 33) (by kernel_rfl) (by kernel_rfl) fun args v hG => by
  obtain ⟨⟨⟨hi, lo⟩, x, below⟩, h1, h⟩ := ob_some hG
  obtain ⟨hp, rfl⟩ := Prod.mk.inj (Option.some.inj h)
  rw [w4_some h1]
  simp only [Bool.and_eq_true, eqI_dec, leI_dec, decide_eq_true_eq] at hp
  obtain ⟨rfl, hl, h0, hs⟩ := hp
  have hl' := in62_iff.1 hl
  have hs' := in12_iff.1 hs
  have h1 := hl'.2
  have h3 := hs'.1
  have h7 := hs'.2
  refine ⟨rfl, rfl, rfl, 14, (K33 0 lo x below _ _).trans ?_⟩
  obtain ⟨d1, d2, d3⟩ := dv0 lo h0 h1
  have hsp := tsplit lo 10 (by omega)
  simp only
  by_cases hx : 0 < x
  · rw [ite2_pos (show gtI x 0 = true from by rw [gtI_dec]; simpa using hx), ite2_pos d1]
    by_cases hm : lo.tmod 10 = 0
    · rw [ite2_pos (by rw [d2, eqI_dec]; simpa using hm), d3, show wrapA .u64 (Int.tdiv 0 10) = 0 from rfl, show Int.sub x 1 = x - 1 from rfl, wrapA_i64 (show _ ≤ x - 1 by omega) (show x - 1 < _ by omega)]
      obtain ⟨r1, r2, r3⟩ := res_ten (below := below) hx h7 hm
      obtain ⟨a, b, c, tp, hl⟩ := whole_loop below 13 (lo.tdiv 10) (x - 1) 14 (by omega) (by omega) (by omega) (by omega) (by omega) (by omega)
      rw [show masks.l = fis from rfl, hl, ob_of]
      refine (C33_0_0 _ _ _ _ _ _ _ _ _ _).trans ?_
      unfold decRes
      rw [r1, r2, r3]; rfl
    · rw [ite2_neg (by rw [d2, eqI_dec]; simpa using hm)]
      have hst : x = 0 ∨ lo.tmod 10 ≠ 0 := .inr hm
      rw [ite2_neg (show gtI 0 0 = false from by rw [gtI_dec]; rfl)]
      by_cases hb : 1000000000000000 ≤ lo
      · have ho : Sp.rOk (Sp.sg below lo) x = false := whole_no hst h0 h3 (.inl hb)
        rw [ite2_pos (show geI lo 1000000000000000 = true from by rw [geI_dec]; simpa using hb)]
        rw [decRes_no ho]; rfl
      rw [ite2_neg (show geI lo 1000000000000000 = false from by rw [geI_dec]; simpa using hb)]
      by_cases h6 : 6 < x
      · have ho : Sp.rOk (Sp.sg below lo) x = false := whole_no hst h0 h3 (.inr h6)
        rw [ite2_pos (show gtI x 6 = true from by rw [gtI_dec]; simpa using h6)]
        rw [decRes_no ho]; rfl
      rw [ite2_neg (show gtI x 6 = false from by rw [gtI_dec]; simpa using h6)]
      obtain ⟨ho, hM, hS⟩ := whole_yes (below := below) hst h0 h3 (by omega) (by omega)
      obtain ⟨f1, f2⟩ := fok_fl x (by omega) (by omega)
      cases below
      · obtain ⟨f3, f4⟩ := fok_fl lo (by omega) (by omega)
        rw [ite2_false, wrapA_i64 (x := lo) (by omega) (by omega), f3, f1, f4, f2]
        unfold decRes; rw [ho, hM, hS]; rfl
      · obtain ⟨f3, f4⟩ := fok_fl (0 - lo) (by omega) (by omega)
        rw [ite2_true, wrapA_i64 (x := lo) (by omega) (by omega), show Int.sub 0 lo = 0 - lo from rfl, ← wrapA_eq, wrapA_i64 (x := 0 - lo) (by omega) (by omega), f3, f1, f4, f2, show 0 - lo = -lo by omega]
        unfold decRes; rw [ho, hM, hS]; rfl
  · rw [ite2_neg (show gtI x 0 = false from by rw [gtI_dec]; simpa using hx)]
    have hst : x = 0 ∨ lo.tmod 10 ≠ 0 := .inl (by omega)
    rw [ite2_neg (show gtI 0 0 = false from by rw [gtI_dec]; rfl)]
    by_cases hb : 1000000000000000 ≤ lo
    · have ho : Sp.rOk (Sp.sg below lo) x = false := whole_no hst h0 h3 (.inl hb)
      rw [ite2_pos (show geI lo 1000000000000000 = true from by rw [geI_dec]; simpa using hb)]
      rw [decRes_no ho]; rfl
    rw [ite2_neg (show geI lo 1000000000000000 = false from by rw [geI_dec]; simpa using hb)]
    by_cases h6 : 6 < x
    · have ho : Sp.rOk (Sp.sg below lo) x = false := whole_no hst h0 h3 (.inr h6)
      rw [ite2_pos (show gtI x 6 = true from by rw [gtI_dec]; simpa using h6)]
      rw [decRes_no ho]; rfl
    rw [ite2_neg (show gtI x 6 = false from by rw [gtI_dec]; simpa using h6)]
    obtain ⟨ho, hM, hS⟩ := whole_yes (below := below) hst h0 h3 (by omega) (by omega)
    obtain ⟨f1, f2⟩ := fok_fl x (by omega) (by omega)
    cases below
    · obtain ⟨f3, f4⟩ := fok_fl lo (by omega) (by omega)
      rw [ite2_false, wrapA_i64 (x := lo) (by omega) (by omega), f3, f1, f4, f2]
      unfold decRes; rw [ho, hM, hS]; rfl
    · obtain ⟨f3, f4⟩ := fok_fl (0 - lo) (by omega) (by omega)
      rw [ite2_true, wrapA_i64 (x := lo) (by omega) (by omega), show Int.sub 0 lo = 0 - lo from rfl, ← wrapA_eq, wrapA_i64 (x := 0 - lo) (by omega) (by omega), f3, f1, f4, f2, show 0 - lo = -lo by omega]
      unfold decRes; rw [ho, hM, hS]; rfl

end
end Go.Proofs.YtpnjbagpplodjaaDoor
