/- Contracts: signs; the reference's sums. -/
import Derived.Test.YtpnjbagpplodjaaDoorDeG
namespace Go.Proofs.YtpnjbagpplodjaaDoor
open Go.RowKit Go.Am
set_option maxRecDepth 1000000
set_option linter.unusedSimpArgs false
set_option linter.unusedVariables false
noncomputable section
/-! ### signs -/
def rung (N : Nat) : Nat := if N = 0 then 0 else
  min ((max ((0 : Int) + N.log2 - Ieee.double.fractionBits) Ieee.double.leastPlace - Ieee.double.leastPlace).toNat * Ieee.double.binade + Ieee.Toward.even.cut false (N <<< ((0 : Int) - max ((0 : Int) + N.log2 - Ieee.double.fractionBits) Ieee.double.leastPlace).toNat) (max ((0 : Int) + N.log2 - Ieee.double.fractionBits) Ieee.double.leastPlace - 0).toNat) Ieee.double.infRung
theorem cut_even (b : Bool) (x y : Nat) : Ieee.Toward.even.cut b x y = Ieee.Toward.even.cut false x y := rfl
theorem nearest_word (n : Int) : FloatKind.f64.nearest n = Ieee.double.word (decide (n < 0)) (rung n.natAbs) := by
  unfold FloatKind.nearest FloatKind.encode FloatKind.format Ieee.Format.write
  simp only
  unfold Ieee.Format.nearest rung
  split
  · rfl
  · rfl
theorem rung_lt (N : Nat) : rung N < 2 ^ 63 := by
  unfold rung
  split
  · decide
  · refine Nat.lt_of_le_of_lt (Nat.min_le_right _ _) ?_
    have e4 : Ieee.double.infRung = 2047 * 2 ^ 52 := by decide
    rw [e4]; omega
theorem xor_top (r : Nat) (h : r < 2 ^ 63) : Nat.xor r (2 ^ 63) = 2 ^ 63 + r ∧ Nat.xor (2 ^ 63 + r) (2 ^ 63) = r := by
  have e1 : r ^^^ 2 ^ 63 = 2 ^ 63 + r := by
    apply Nat.eq_of_testBit_eq
    intro i
    rw [Nat.testBit_xor, Nat.testBit_two_pow]
    rcases Nat.lt_trichotomy i 63 with hi | hi | hi
    · rw [Nat.testBit_two_pow_add_gt hi]; simp [show 63 ≠ i by omega]
    · subst hi; rw [Nat.testBit_two_pow_add_eq]; simp
    · rw [Nat.testBit_lt_two_pow (x := 2 ^ 63 + r) (i := i) (Nat.lt_of_lt_of_le (show 2 ^ 63 + r < 2 ^ 64 by omega) (Nat.pow_le_pow_right (by omega) (by omega)))]
      rw [Nat.testBit_lt_two_pow (x := r) (i := i) (Nat.lt_of_lt_of_le h (Nat.pow_le_pow_right (by omega) (by omega)))]
      simp [show 63 ≠ i by omega]
  refine ⟨e1, ?_⟩
  show (2 ^ 63 + r) ^^^ 2 ^ 63 = r
  rw [← e1, Nat.xor_assoc, Nat.xor_self, Nat.xor_zero]
theorem float_neg (m : Int) (h1 : -1000000000000000 < m) (h2 : m < 1000000000000000) : Sp.fok (Nat.xor (Sp.fl m) 9223372036854775808) = true ∧ Sp.fi (Nat.xor (Sp.fl m) 9223372036854775808) = -m := by
  by_cases h0 : m = 0
  · subst h0
    have e : floatToIntVal .f64 (Nat.xor (Sp.fl 0) 9223372036854775808) .i64 = some 0 := by decide
    unfold Sp.fok Sp.fi
    rw [e]; exact ⟨rfl, rfl⟩
  · have e : Nat.xor (Sp.fl m) 9223372036854775808 = Sp.fl (-m) := by
      show Nat.xor (FloatKind.f64.nearest m) (2 ^ 63) = FloatKind.f64.nearest (-m)
      rw [nearest_word, nearest_word, Int.natAbs_neg]
      obtain ⟨x1, x2⟩ := xor_top _ (rung_lt m.natAbs)
      unfold Ieee.Format.word
      have e5 : Ieee.double.signWeight = 2 ^ 63 := rfl
      rw [e5]
      by_cases hm : m < 0
      · rw [if_pos (by simpa using hm), if_neg (by simp; omega)]; exact x2
      · rw [if_neg (by simpa using hm), if_pos (by simp; omega)]; exact x1
    rw [e]
    exact fok_fl (-m) (by omega) (by omega)
theorem neg_h : Holds Tryd.prog (22, negS) := holds_of_K masks (s := [(40, pointS), (43, validS), (47, ofS)]) (fun x h => by
    simp only [List.mem_cons, List.not_mem_nil, or_false] at h
    rcases h with rfl | rfl | rfl
    · exact point_h
    · exact valid_h
    · exact of_h) none Tryd.func22 (by kernel_rfl) (c := code 22) (by kernel_rfl) (rs := res 22) (by kernel_rfl) (by kernel_rfl) fun args v hG => by
  obtain ⟨⟨m, s⟩, h1, h⟩ := ob_some hG
  obtain ⟨hp, rfl⟩ := Prod.mk.inj (Option.some.inj h)
  rw [d1_some h1]
  refine ⟨rfl, rfl, rfl, 0, (K22 m s _ _).trans ?_⟩
  simp only at hp ⊢
  obtain ⟨m0, m1, s0, s1, _⟩ := valid_iff.1 hp
  obtain ⟨f1, f2⟩ := float_neg m m0 m1
  obtain ⟨f3, f4⟩ := fok_fl s (by omega) (by omega)
  rw [hp, f1, f2, f3, f4]; rfl
theorem rneg_h : Holds Tryd.prog (23, negS) := holds_of_K masks (s := []) (fun _ h => by cases h) none Tryd.func23 (by kernel_rfl) (c := code 23) (by kernel_rfl) (rs := res 23) (by kernel_rfl) (by kernel_rfl) fun args v hG => by
  obtain ⟨⟨m, s⟩, h1, h⟩ := ob_some hG
  obtain ⟨hp, rfl⟩ := Prod.mk.inj (Option.some.inj h)
  rw [d1_some h1]
  refine ⟨rfl, rfl, rfl, 0, (K23 m s _ _).trans ?_⟩
  simp only at hp ⊢
  obtain ⟨m0, m1, _⟩ := valid_iff.1 hp
  rw [show Int.sub 0 m = -m from by show 0 - m = -m; omega, wrapA_i64 (by omega) (by omega)]; rfl
theorem cmp3b (x y : Int) : (x < y ∧ Sp.cmp x y = -1) ∨ (x = y ∧ Sp.cmp x y = 0) ∨ (y < x ∧ Sp.cmp x y = 1) := by
  unfold Sp.cmp
  split
  · exact .inl ⟨by assumption, rfl⟩
  · split
    · exact .inr (.inl ⟨by assumption, rfl⟩)
    · exact .inr (.inr ⟨by omega, rfl⟩)
theorem leaf_ok {h l : Int} {b : Bool} {V : Int} (hw : Sp.wid2 h l = true) (e : Sp.sg b (Sp.wide h l) = V) : ite2 (Sp.wid2 h l) (some (decRes (Sp.sg b (Sp.wide h l)) 6)) none = some (decRes V 6) := by rw [hw, e]; rfl
theorem wid2_of {a b : Int} (h1 : 0 ≤ a) (h2 : a < 4000000000000) (h3 : 0 ≤ b) (h4 : b < 1000000000) : Sp.wid2 a b = true := decide_eq_true ⟨h1, h2, h3, h4⟩
theorem radd_h : Holds Tryd.prog (21, addS) := holds_of_K masks (s := [(38, sizedS), (39, aboveS), (46, rwholeS)]) (fun x h => by
    simp only [List.mem_cons, List.not_mem_nil, or_false] at h
    rcases h with rfl | rfl | rfl
    · exact sized_h
    · exact above_h
    · exact rwhole_h) none Tryd.func21 (by kernel_rfl) (c := code 21) (by kernel_rfl) (rs := res 21) (by kernel_rfl) (by kernel_rfl) fun args v hG => by
  obtain ⟨⟨⟨m, s⟩, n, t⟩, h1, h⟩ := ob_some hG
  obtain ⟨hp, rfl⟩ := Prod.mk.inj (Option.some.inj h)
  rw [d2_some h1]
  refine ⟨rfl, rfl, rfl, 0, (K21 m s n t _ _).trans ?_⟩
  rw [Bool.and_eq_true] at hp
  simp only at hp ⊢
  obtain ⟨hav, hbv⟩ := hp
  have ha := valid_ok hav
  have hb := valid_ok hbv
  obtain ⟨_, _, s0, s1⟩ := ok_iff.1 ha
  obtain ⟨_, _, t0, t1⟩ := ok_iff.1 hb
  obtain ⟨x0, x1⟩ := absv_range m s ha
  obtain ⟨y0, y1⟩ := absv_range n t hb
  obtain ⟨w1, w2⟩ := wide_of _ x0 x1
  obtain ⟨w3, w4⟩ := wide_of _ y0 y1
  have va := val_sign m s (in6_of s0 s1)
  have vb := val_sign n t (in6_of t0 t1)
  have ax := absv_val m s
  have ay := absv_val n t
  have tx := tsplit (Sp.absv m s) 1000000000 (by omega)
  have ty := tsplit (Sp.absv n t) 1000000000 (by omega)
  have tx' := tx.2.2.2.1 x0
  have ty' := ty.2.2.2.1 y0
  rw [w1, w2, w3, w4, ha, hb]
  rw [show Int.add (Sp.val m s) (Sp.val n t) = Sp.val m s + Sp.val n t from rfl]
  generalize Sp.val m s = A at *
  generalize Sp.val n t = B at *
  generalize Sp.absv m s = X at *
  generalize Sp.absv n t = Y at *
  generalize hXH : X.tdiv 1000000000 = xh at *
  generalize hXL : X.tmod 1000000000 = xl at *
  generalize hYH : Y.tdiv 1000000000 = yh at *
  generalize hYL : Y.tmod 1000000000 = yl at *
  have tl := tsplit (xl + yl) 1000000000 (by omega)
  have tl' := tl.2.2.2.1 (by omega)
  rw [show Int.add xl yl = xl + yl from rfl, wrapA_i64 (x := xl + yl) (by omega) (by omega), wrapA_i64 (x := (xl + yl).tdiv 1000000000) (by omega) (by omega), show Int.add xh yh = xh + yh from rfl, wrapA_i64 (x := xh + yh) (by omega) (by omega),
    show Int.add (xh + yh) ((xl + yl).tdiv 1000000000) = xh + yh + (xl + yl).tdiv 1000000000 from rfl, wrapA_i64 (x := xh + yh + (xl + yl).tdiv 1000000000) (by omega) (by omega)]
  rw [show Int.sub yl xl = yl - xl from rfl, wrapA_i64 (x := yl - xl) (by omega) (by omega), show Int.sub yh xh = yh - xh from rfl, wrapA_i64 (x := yh - xh) (by omega) (by omega), show Int.sub (yh - xh) 1 = yh - xh - 1 from rfl, wrapA_i64 (x := yh - xh - 1) (by omega) (by omega), show Int.add (yl - xl) 1000000000 = yl - xl + 1000000000 from rfl, wrapA_i64 (x := yl - xl + 1000000000) (by omega) (by omega)]
  rw [show Int.sub xl yl = xl - yl from rfl, wrapA_i64 (x := xl - yl) (by omega) (by omega), show Int.sub xh yh = xh - yh from rfl, wrapA_i64 (x := xh - yh) (by omega) (by omega), show Int.sub (xh - yh) 1 = xh - yh - 1 from rfl, wrapA_i64 (x := xh - yh - 1) (by omega) (by omega), show Int.add (xl - yl) 1000000000 = xl - yl + 1000000000 from rfl, wrapA_i64 (x := xl - yl + 1000000000) (by omega) (by omega)]
  have c := cmp3b X Y
  simp only [ite2_true, ite2_and, Bool.and_true]
  by_cases hm : m < 0 <;> by_cases hn : n < 0
  · rw [if_pos hm] at ax; rw [if_pos hn] at ay
    have em : ltI m 0 = true := by rw [ltI_eq]; simpa using hm
    have en : ltI n 0 = true := by rw [ltI_eq]; simpa using hn
    rw [em, en]
    exact leaf_ok (wid2_of (by omega) (by omega) (by omega) (by omega)) (by show -((xh + yh + (xl + yl).tdiv 1000000000) * 1000000000 + (xl + yl).tmod 1000000000) = A + B; omega)
  · rw [if_pos hm] at ax; rw [if_neg hn] at ay
    have em : ltI m 0 = true := by rw [ltI_eq]; simpa using hm
    have en : ltI n 0 = false := by rw [ltI_eq]; simpa using hn
    rw [em, en, ite2_true]
    rw [ite2_neg rfl]
    by_cases hc : X < Y
    · rw [ite2_pos (show ltI (Sp.cmp X Y) 0 = true by rw [ltI_eq]; simp only [decide_eq_true_eq]; omega)]
      by_cases hl : yl - xl < 0
      · rw [ite2_pos (show ltI (yl - xl) 0 = true by rw [ltI_eq]; simpa using hl)]
        exact leaf_ok (wid2_of (by omega) (by omega) (by omega) (by omega)) (by show ((yh - xh - 1) * 1000000000 + (yl - xl + 1000000000)) = A + B; omega)
      · rw [ite2_neg (show ltI (yl - xl) 0 = false by rw [ltI_eq]; simpa using hl)]
        exact leaf_ok (wid2_of (by omega) (by omega) (by omega) (by omega)) (by show ((yh - xh) * 1000000000 + (yl - xl)) = A + B; omega)
    · rw [ite2_neg (show ltI (Sp.cmp X Y) 0 = false by rw [ltI_eq]; simp only [decide_eq_false_iff_not]; omega)]
      by_cases hl : xl - yl < 0
      · rw [ite2_pos (show ltI (xl - yl) 0 = true by rw [ltI_eq]; simpa using hl)]
        exact leaf_ok (wid2_of (by omega) (by omega) (by omega) (by omega)) (by show -((xh - yh - 1) * 1000000000 + (xl - yl + 1000000000)) = A + B; omega)
      · rw [ite2_neg (show ltI (xl - yl) 0 = false by rw [ltI_eq]; simpa using hl)]
        exact leaf_ok (wid2_of (by omega) (by omega) (by omega) (by omega)) (by show -((xh - yh) * 1000000000 + (xl - yl)) = A + B; omega)
  · rw [if_neg hm] at ax; rw [if_pos hn] at ay
    have em : ltI m 0 = false := by rw [ltI_eq]; simpa using hm
    have en : ltI n 0 = true := by rw [ltI_eq]; simpa using hn
    rw [em, en, ite2_false]
    rw [ite2_neg (show ite2 true false true = false from rfl)]
    by_cases hc : X < Y
    · rw [ite2_pos (show ltI (Sp.cmp X Y) 0 = true by rw [ltI_eq]; simp only [decide_eq_true_eq]; omega)]
      by_cases hl : yl - xl < 0
      · rw [ite2_pos (show ltI (yl - xl) 0 = true by rw [ltI_eq]; simpa using hl)]
        exact leaf_ok (wid2_of (by omega) (by omega) (by omega) (by omega)) (by show -((yh - xh - 1) * 1000000000 + (yl - xl + 1000000000)) = A + B; omega)
      · rw [ite2_neg (show ltI (yl - xl) 0 = false by rw [ltI_eq]; simpa using hl)]
        exact leaf_ok (wid2_of (by omega) (by omega) (by omega) (by omega)) (by show -((yh - xh) * 1000000000 + (yl - xl)) = A + B; omega)
    · rw [ite2_neg (show ltI (Sp.cmp X Y) 0 = false by rw [ltI_eq]; simp only [decide_eq_false_iff_not]; omega)]
      by_cases hl : xl - yl < 0
      · rw [ite2_pos (show ltI (xl - yl) 0 = true by rw [ltI_eq]; simpa using hl)]
        exact leaf_ok (wid2_of (by omega) (by omega) (by omega) (by omega)) (by show ((xh - yh - 1) * 1000000000 + (xl - yl + 1000000000)) = A + B; omega)
      · rw [ite2_neg (show ltI (xl - yl) 0 = false by rw [ltI_eq]; simpa using hl)]
        exact leaf_ok (wid2_of (by omega) (by omega) (by omega) (by omega)) (by show ((xh - yh) * 1000000000 + (xl - yl)) = A + B; omega)
  · rw [if_neg hm] at ax; rw [if_neg hn] at ay
    have em : ltI m 0 = false := by rw [ltI_eq]; simpa using hm
    have en : ltI n 0 = false := by rw [ltI_eq]; simpa using hn
    rw [em, en]
    exact leaf_ok (wid2_of (by omega) (by omega) (by omega) (by omega)) (by show ((xh + yh + (xl + yl).tdiv 1000000000) * 1000000000 + (xl + yl).tmod 1000000000) = A + B; omega)

end
end Go.Proofs.YtpnjbagpplodjaaDoor
