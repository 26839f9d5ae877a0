/- Products by the program. -/
import Derived.Test.YtpnjbagpplodjaaDoorDeQ
namespace Go.Proofs.YtpnjbagpplodjaaDoor
open Go.RowKit Go.Am
set_option maxRecDepth 1000000
set_option linter.unusedSimpArgs false
set_option linter.unusedVariables false
noncomputable section
/-! ### wide whole numbers, made decimals by the program -/
theorem wtail {β : Type} {hi lo x : Int} {below : Bool} (i0 : 0 ≤ hi) (l0 : 0 ≤ lo) (x0 : 0 ≤ x) (x1 : x ≤ 12) (hst : x = 0 ∨ (hi * 18446744073709551616 + lo).tmod 10 ≠ 0)
    (P : Option β → Bool → Int → Int → Prop) {A1 A2 A3 B C : Option β} (h1 : P A1 false 0 0) (h2 : P A2 false 0 0) (h3 : P A3 false 0 0)
    (hB : P B true (Sp.fi (Sp.fl (IntKind.wrap IntKind.i64 (Int.sub 0 (wrapA IntKind.i64 lo))))) (Sp.fi (Sp.fl x))) (hC : P C true (Sp.fi (Sp.fl (wrapA IntKind.i64 lo))) (Sp.fi (Sp.fl x))) :
    P (ite2 (gtI hi 0) A1 (ite2 (geI lo 1000000000000000) A2 (ite2 (gtI x 6) A3 (ite2 below (ite2 (ite2 (Sp.fok (Sp.fl (IntKind.wrap IntKind.i64 (Int.sub 0 (wrapA IntKind.i64 lo))))) (Sp.fok (Sp.fl x)) false) B none) (ite2 (ite2 (Sp.fok (Sp.fl (wrapA IntKind.i64 lo))) (Sp.fok (Sp.fl x)) false) C none)))))
      (Sp.rOk (Sp.sg below (hi * 18446744073709551616 + lo)) x) (Sp.rM (Sp.sg below (hi * 18446744073709551616 + lo)) x) (Sp.rS (Sp.sg below (hi * 18446744073709551616 + lo)) x) := by
  have no : (1000000000000000 ≤ hi * 18446744073709551616 + lo ∨ 6 < x) → Sp.rOk (Sp.sg below (hi * 18446744073709551616 + lo)) x = false ∧ Sp.rM (Sp.sg below (hi * 18446744073709551616 + lo)) x = 0 ∧ Sp.rS (Sp.sg below (hi * 18446744073709551616 + lo)) x = 0 := fun h => by
    have ho := whole_no (below := below) hst (by omega) x0 h
    exact ⟨ho, (res_none ho).1, (res_none ho).2⟩
  by_cases hz : 0 < hi
  · obtain ⟨e1, e2, e3⟩ := no (.inl (by omega))
    rw [ite2_pos (show gtI hi 0 = true from by rw [gtI_dec]; exact decide_eq_true hz), e1, e2, e3]; exact h1
  obtain rfl : hi = 0 := by omega
  rw [ite2_neg (show gtI 0 0 = false from by rw [gtI_dec]; rfl)]
  by_cases hb : 1000000000000000 ≤ lo
  · obtain ⟨e1, e2, e3⟩ := no (.inl (by omega))
    rw [ite2_pos (show geI lo 1000000000000000 = true from by rw [geI_dec]; exact decide_eq_true hb), e1, e2, e3]; exact h2
  rw [ite2_neg (show geI lo 1000000000000000 = false from by rw [geI_dec]; exact decide_eq_false hb)]
  by_cases h6 : 6 < x
  · obtain ⟨e1, e2, e3⟩ := no (.inr h6)
    rw [ite2_pos (show gtI x 6 = true from by rw [gtI_dec]; exact decide_eq_true h6), e1, e2, e3]; exact h3
  rw [ite2_neg (show gtI x 6 = false from by rw [gtI_dec]; exact decide_eq_false h6)]
  have e0 : 0 * 18446744073709551616 + lo = lo := by omega
  rw [e0] at hst ⊢
  obtain ⟨ho, hM, hS⟩ := whole_yes (below := below) hst l0 x0 (by omega) (by omega)
  obtain ⟨f1, f2⟩ := fok_fl x (by omega) (by omega)
  rw [ho, hM, hS]
  cases below
  · obtain ⟨f3, f4⟩ := fok_fl lo (by omega) (by omega)
    rw [ite2_false, wrapA_i64 (x := lo) (by omega) (by omega), f3, f1]
    rw [wrapA_i64 (x := lo) (by omega) (by omega), f4, f2] at hC
    exact hC
  · obtain ⟨f3, f4⟩ := fok_fl (0 - lo) (by omega) (by omega)
    rw [wrapA_i64 (x := lo) (by omega) (by omega), show Int.sub 0 lo = 0 - lo from rfl, ← wrapA_eq, wrapA_i64 (x := 0 - lo) (by omega) (by omega), f4, f2, show 0 - lo = -lo by omega] at hB
    rw [ite2_true, wrapA_i64 (x := lo) (by omega) (by omega), show Int.sub 0 lo = 0 - lo from rfl, ← wrapA_eq, wrapA_i64 (x := 0 - lo) (by omega) (by omega), f3, f1]
    exact hB
theorem dg10 {hi lo : Int} (i0 : 0 ≤ hi) (i1 : hi < 9223372036854775808) (l0 : 0 ≤ lo) (l1 : lo < 18446744073709551616) : Sp.dgOk (Int.tmod hi 10) lo 10 = true ∧ Sp.dvR (Int.tmod hi 10) lo 10 = (hi * 18446744073709551616 + lo).tmod 10 ∧
    0 ≤ Sp.dvQ (Int.tmod hi 10) lo 10 ∧ Sp.dvQ (Int.tmod hi 10) lo 10 < 18446744073709551616 ∧ hi.tdiv 10 * 18446744073709551616 + Sp.dvQ (Int.tmod hi 10) lo 10 = (hi * 18446744073709551616 + lo).tdiv 10 := by
  have e1 : hi.tmod 10 = hi % 10 := Int.tmod_eq_emod_of_nonneg i0
  have e2 : hi.tdiv 10 = hi / 10 := Int.tdiv_eq_ediv_of_nonneg i0
  have e3 : (hi * 18446744073709551616 + lo).tmod 10 = (hi * 18446744073709551616 + lo) % 10 := Int.tmod_eq_emod_of_nonneg (by omega)
  have e4 : (hi * 18446744073709551616 + lo).tdiv 10 = (hi * 18446744073709551616 + lo) / 10 := Int.tdiv_eq_ediv_of_nonneg (by omega)
  rw [e1, e2, e3, e4]
  unfold Sp.dvR Sp.dvQ
  exact ⟨decide_eq_true ⟨by omega, by omega, by omega, l0, l1⟩, by omega, by omega, by omega, by omega⟩
noncomputable abbrev s33g : List KSpec := [(48, divS), (40, pointS), (47, ofS)]
theorem s33g_h : ∀ x ∈ s33g, Holds Tryd.prog x := by
  intro x h
  simp only [List.mem_cons, List.not_mem_nil, or_false] at h
  rcases h with rfl | rfl | rfl
  · exact div_h
  · exact point_h
  · exact of_h
theorem gwhole_loop (below : Bool) : ∀ (n : Nat) (hi lo x : Int) (k : Nat), 0 ≤ hi → hi < 9223372036854775808 → 0 ≤ lo → lo < 18446744073709551616 → 0 ≤ x → x ≤ 12 → x < n → n ≤ k →
    ∃ a b c tp, (ltow Tryd.prog (fiAt fis 33) (kcall s33g) none k).gs (codeAt (code 33) [1, 0]) 0 (st33g_100001_0 hi lo below false x 0 0) =
      some (.ret, ex33g_0 a b below (Sp.rOk (Sp.sg below (hi * 18446744073709551616 + lo)) x) c (Sp.rM (Sp.sg below (hi * 18446744073709551616 + lo)) x) (Sp.rS (Sp.sg below (hi * 18446744073709551616 + lo)) x) tp) := by
  intro n
  induction n with
  | zero => intro hi lo x k _ _ _ _ h1 _ h2 _; omega
  | succ n ih =>
    intro hi lo x k i0 i1 l0 l1 x0 x1 hx hk
    obtain ⟨k, rfl⟩ : ∃ j, k = j + 1 := ⟨k - 1, by omega⟩
    rw [← ob_id ((ltow ..).gs _ _ _), gs_round find33, R33g_100001_0]
    obtain ⟨g1, g2, g3, g4, g5⟩ := dg10 i0 i1 l0 l1
    by_cases hp : 0 < x
    · rw [ite2_pos (show gtI x 0 = true from by rw [gtI_dec]; exact decide_eq_true hp), ite2_pos g1]
      by_cases hm : (hi * 18446744073709551616 + lo).tmod 10 = 0
      · have t1 := tsplit hi 10 (by omega)
        rw [ite2_pos (by rw [g2, hm]; rfl), ob_id, wrapA_u64 (x := hi.tdiv 10) (by omega) (by omega), show Int.sub x 1 = x - 1 from rfl, wrapA_i64 (show _ ≤ x - 1 by omega) (show x - 1 < _ by omega)]
        obtain ⟨r1, r2, r3⟩ := res_ten (below := below) hp x1 hm
        rw [r1, r2, r3, ← g5]
        exact ih _ _ (x - 1) k (by omega) (by omega) g3 g4 (by omega) (by omega) (by omega) (by omega)
      · rw [ite2_neg (by rw [g2, eqI_dec]; exact decide_eq_false hm)]
        exact wtail (β := Ex × St) i0 l0 x0 x1 (.inr hm) (fun o ok M S => ∃ a b c tp, o = some (.ret, ex33g_0 a b below ok c M S tp)) ⟨_, _, _, _, rfl⟩ ⟨_, _, _, _, rfl⟩ ⟨_, _, _, _, rfl⟩ ⟨_, _, _, _, rfl⟩ ⟨_, _, _, _, rfl⟩
    · rw [ite2_neg (show gtI x 0 = false from by rw [gtI_dec]; exact decide_eq_false hp)]
      exact wtail (β := Ex × St) i0 l0 x0 x1 (.inl (by omega)) (fun o ok M S => ∃ a b c tp, o = some (.ret, ex33g_0 a b below ok c M S tp)) ⟨_, _, _, _, rfl⟩ ⟨_, _, _, _, rfl⟩ ⟨_, _, _, _, rfl⟩ ⟨_, _, _, _, rfl⟩ ⟨_, _, _, _, rfl⟩
theorem gwhole_h : Holds Tryd.prog (33, wholeGS) := holds_of_K masks (s := s33g) s33g_h none Tryd.func33 (by kernel_rfl) (c := code 33) (by kernel_rfl) (rs := res 33) (by kernel_rfl) (by kernel_rfl) fun args v hG => by
  obtain ⟨⟨⟨hi, lo⟩, x, below⟩, h1, h⟩ := ob_some hG
  obtain ⟨hp, rfl⟩ := Prod.mk.inj (Option.some.inj h)
  rw [w4_some h1]
  simp only [Sp.wgOk, decide_eq_true_eq] at hp
  obtain ⟨i0, i1, l0, l1, x0, x1⟩ := hp
  refine ⟨rfl, rfl, rfl, 14, (K33g hi lo x below _ _).trans ?_⟩
  obtain ⟨g1, g2, g3, g4, g5⟩ := dg10 i0 i1 l0 l1
  show _ = some (decRes (Sp.sg below (hi * 18446744073709551616 + lo)) x)
  unfold decRes
  by_cases hq : 0 < x
  · rw [ite2_pos (show gtI x 0 = true from by rw [gtI_dec]; exact decide_eq_true hq), ite2_pos g1]
    by_cases hm : (hi * 18446744073709551616 + lo).tmod 10 = 0
    · have t1 := tsplit hi 10 (by omega)
      rw [ite2_pos (by rw [g2, hm]; rfl), wrapA_u64 (x := hi.tdiv 10) (by omega) (by omega), show Int.sub x 1 = x - 1 from rfl, wrapA_i64 (show _ ≤ x - 1 by omega) (show x - 1 < _ by omega)]
      obtain ⟨r1, r2, r3⟩ := res_ten (below := below) hq x1 hm
      obtain ⟨a, b, c, tp, hl⟩ := gwhole_loop below 13 (hi.tdiv 10) _ (x - 1) 14 (by omega) (by omega) g3 g4 (by omega) (by omega) (by omega) (by omega)
      rw [show masks.l = fis from rfl, hl, ob_of]
      refine (C33g_0_0 _ _ _ _ _ _ _ _ _ _).trans ?_
      rw [r1, r2, r3, ← g5]; rfl
    · rw [ite2_neg (by rw [g2, eqI_dec]; exact decide_eq_false hm)]
      exact wtail (β := Value) i0 l0 x0 x1 (.inr hm) (fun o ok M S => o = some (Value.tuple ⟨[decV M S, .bool ok]⟩)) rfl rfl rfl rfl rfl
  · rw [ite2_neg (show gtI x 0 = false from by rw [gtI_dec]; exact decide_eq_false hq)]
    exact wtail (β := Value) i0 l0 x0 x1 (.inl (by omega)) (fun o ok M S => o = some (Value.tuple ⟨[decV M S, .bool ok]⟩)) rfl rfl rfl rfl rfl
/-! ### products by the program -/
theorem no_ten {N h l : Int} (e : N = h * 18446744073709551616 + l) (hs : h + l = 18446744073709551616) : N % 10 ≠ 0 := by
  have : N = 5 * (h * 3689348814741910323 + 3689348814741910323) + 1 := by omega
  omega
noncomputable abbrev s18 : List KSpec := [(43, validS), (41, absS), (44, mul64S), (33, wholeGS)]
theorem mul_h : Holds Tryd.prog (18, mulS) := holds_of_K masks (s := s18) (fun x h => by
    simp only [List.mem_cons, List.not_mem_nil, or_false] at h
    rcases h with rfl | rfl | rfl | rfl
    · exact valid_h
    · exact abs_h
    · exact mul64_h
    · exact gwhole_h) none Tryd.func18 (by kernel_rfl) (c := code 18) (by kernel_rfl) (rs := res 18) (by kernel_rfl) (by kernel_rfl) fun args v hG => by
  obtain ⟨⟨⟨m, s⟩, n, t⟩, h1, h⟩ := ob_some hG
  obtain ⟨hp, rfl⟩ := Prod.mk.inj (Option.some.inj h)
  rw [d2_some h1]
  rw [Bool.and_eq_true] at hp
  obtain ⟨vA, vB⟩ := hp
  refine ⟨rfl, rfl, rfl, 0, (K18 m s n t _ _).trans ?_⟩
  simp only at vA vB ⊢
  obtain ⟨m0, m1, s0, s1, -⟩ := valid_iff.1 vA
  obtain ⟨n0, n1, t0, t1, -⟩ := valid_iff.1 vB
  rw [vA, vB, eqI_self, in62_iff.2 ⟨by omega, by omega⟩, in62_iff.2 ⟨by omega, by omega⟩]
  obtain ⟨a, ha⟩ : ∃ a, Sp.abs m = a := ⟨_, rfl⟩
  obtain ⟨b, hb⟩ : ∃ b, Sp.abs n = b := ⟨_, rfl⟩
  have ha1 : 0 ≤ a ∧ a < 1000000000000000 := by rw [← ha]; unfold Sp.abs; split <;> omega
  have hb1 : 0 ≤ b ∧ b < 1000000000000000 := by rw [← hb]; unfold Sp.abs; split <;> omega
  have p0 : 0 ≤ a * b := Int.mul_nonneg ha1.1 hb1.1
  have p1 : a * b ≤ 1000000000000000 * 1000000000000000 := Int.mul_le_mul (by omega) (by omega) hb1.1 (by omega)
  rw [ha, hb, show Int.mul a b = a * b from rfl]
  have u1 : Sp.u64 a = true := decide_eq_true ⟨by omega, by omega⟩
  have u2 : Sp.u64 b = true := decide_eq_true ⟨by omega, by omega⟩
  have w1 : wrapA IntKind.i64 (Int.add s t) = s + t := wrapA_i64 (show _ ≤ s + t by omega) (show s + t < _ by omega)
  have e1 : Int.ediv (a * b) 18446744073709551616 = a * b / 18446744073709551616 := rfl
  have e2 : Int.emod (a * b) 18446744073709551616 = a * b % 18446744073709551616 := rfl
  have g1 : Sp.wgOk (a * b / 18446744073709551616) (a * b % 18446744073709551616) (s + t) = true := decide_eq_true ⟨by omega, by omega, by omega, by omega, by omega, by omega⟩
  have e3 : Int.add (Int.mul (a * b / 18446744073709551616) 18446744073709551616) (a * b % 18446744073709551616) = a * b := by
    show a * b / 18446744073709551616 * 18446744073709551616 + a * b % 18446744073709551616 = a * b
    omega
  rw [u1, u2, w1, e1, e2, g1, e3]
  have flip : decRes (Sp.sg (gtI (wrapA IntKind.u64 (Int.add (a * b / 18446744073709551616) (a * b % 18446744073709551616))) 0) (a * b)) (s + t) = decRes (-(a * b)) (s + t) := by
    rw [wrapA_u64', gtI_dec, show Int.add (a * b / 18446744073709551616) (a * b % 18446744073709551616) = a * b / 18446744073709551616 + a * b % 18446744073709551616 from rfl]
    by_cases hw : 0 < (a * b / 18446744073709551616 + a * b % 18446744073709551616) % 18446744073709551616
    · rw [decide_eq_true hw]; rfl
    · rw [decide_eq_false hw]
      by_cases hz : a * b = 0
      · rw [hz]; rfl
      · have hm : (a * b).tmod 10 ≠ 0 := by
          rw [Int.tmod_eq_emod_of_nonneg p0]
          exact no_ten (h := a * b / 18446744073709551616) (l := a * b % 18446744073709551616) (by omega) (by omega)
        have hbig : 1000000000000000 ≤ a * b := by omega
        have o1 : Sp.rOk (Sp.sg false (a * b)) (s + t) = false := whole_no (below := false) (.inr hm) p0 (by omega) (.inl hbig)
        have o2 : Sp.rOk (Sp.sg true (a * b)) (s + t) = false := whole_no (below := true) (.inr hm) p0 (by omega) (.inl hbig)
        have n1 := res_none o1
        have n2 := res_none o2
        show decRes (Sp.sg false (a * b)) (s + t) = decRes (Sp.sg true (a * b)) (s + t)
        unfold decRes
        rw [o1, o2, n1.1, n1.2, n2.1, n2.2]
  have flop : decRes (Sp.sg false (a * b)) (s + t) = decRes (a * b) (s + t) := rfl
  show _ = some (decRes (m * n) (s + t))
  rw [ltI_eq, ltI_eq]
  unfold decRes at flip flop ⊢
  by_cases hm : m < 0
  · have : a = -m := by rw [← ha]; unfold Sp.abs; rw [if_pos hm]
    rw [decide_eq_true hm]
    by_cases hn : n < 0
    · have hb2 : b = -n := by rw [← hb]; unfold Sp.abs; rw [if_pos hn]
      rw [decide_eq_true hn, show m * n = a * b by rw [this, hb2, Int.neg_mul_neg]]
      rfl
    · have hb2 : b = n := by rw [← hb]; unfold Sp.abs; rw [if_neg hn]
      rw [decide_eq_false hn, show m * n = -(a * b) by rw [this, hb2, Int.neg_mul, Int.neg_neg]]
      exact congrArg some flip
  · have : a = m := by rw [← ha]; unfold Sp.abs; rw [if_neg hm]
    rw [decide_eq_false hm]
    by_cases hn : n < 0
    · have hb2 : b = -n := by rw [← hb]; unfold Sp.abs; rw [if_pos hn]
      rw [decide_eq_true hn, show m * n = -(a * b) by rw [this, hb2, Int.mul_neg, Int.neg_neg]]
      exact congrArg some flip
    · have hb2 : b = n := by rw [← hb]; unfold Sp.abs; rw [if_neg hn]
      rw [decide_eq_false hn, show m * n = a * b by rw [this, hb2]]
      rfl

end
end Go.Proofs.YtpnjbagpplodjaaDoor
