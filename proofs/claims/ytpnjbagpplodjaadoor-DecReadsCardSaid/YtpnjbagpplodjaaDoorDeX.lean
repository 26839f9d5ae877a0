/- What quotients promise. -/
import Derived.Test.YtpnjbagpplodjaaDoorDeW
namespace Go.Proofs.YtpnjbagpplodjaaDoor
open Go.RowKit Go.Am
set_option maxRecDepth 1000000
set_option linter.unusedSimpArgs false
set_option linter.unusedVariables false
noncomputable section
def tailK (B T K X Y R Q A U V : Int) : Option Value := (ite2 (ite2 (Sp.valid B T) (Sp.i64 K) false) (ite2 (ite2 (Sp.dB B T K) false true) (some (Value.bool false)) (ite2 (ite2 (Sp.valid X Y) (Sp.valid K (0 : Int)) false) (ite2 (ite2 (Sp.rOk (Int.mul X K) (Int.add Y (0 : Int))) false true) (some (Value.bool false)) (ite2 (Sp.valid R Q) (ite2 (ite2 (ite2 (ite2 (eqI B B) (ite2 (eqI T T) true false) false) true false) true false) (ite2 (ite2 (Sp.valid B T) (Sp.valid (Int.neg R) Q) false) (ite2 (ite2 (Sp.rOk A (6 : Int)) false true) (some (Value.bool false)) (ite2 (ltI U (0 : Int)) (ite2 (Sp.valid U V) (ite2 (ite2 (ite2 (ite2 (eqI (Int.neg U) (Int.neg U)) (ite2 (eqI V V) true false) false) true false) true false) (ite2 (ite2 (Sp.ok (Int.neg U) V) (Sp.ok (Sp.gM 50 6) (Sp.gS 50 6)) false) (some (Value.bool (leI (Sp.cmp (Sp.val (Int.neg U) V) (Sp.val (Sp.gM 50 6) (Sp.gS 50 6))) (0 : Int)))) (none)) (none)) (none)) (ite2 (ite2 (ite2 (ite2 (eqI U U) (ite2 (eqI V V) true false) false) true false) true false) (ite2 (ite2 (Sp.ok U V) (Sp.ok (Sp.gM 50 6) (Sp.gS 50 6)) false) (some (Value.bool (leI (Sp.cmp (Sp.val U V) (Sp.val (Sp.gM 50 6) (Sp.gS 50 6))) (0 : Int)))) (none)) (none)))) (none)) (none)) (none))) (none))) (none))
def roundK (M S x : Int) (k : Option Value) : Option Value :=
  bt (Sp.valid M S && Sp.i64 x) (bt (Sp.valid M S && Sp.i64 x) (ite2 (ite2 (ite2 (eqI (Sp.dM M S x) (Sp.dM M S x)) (ite2 (eqI (Sp.dS M S x) (Sp.dS M S x)) true false) false) false true) (some (.bool false)) (ite2 (ite2 (ite2 (Sp.dB M S x) (Sp.dB M S x) (ite2 (Sp.dB M S x) false true)) false true) (some (.bool false)) (ite2 (ltI x 1) (ite2 (Sp.dB M S x) (some (.bool false)) k) k))))
def endK (B T K : Int) : Option Value := tailK B T K (Sp.dM B T K) (Sp.dS B T K) (Sp.rM (Int.mul (Sp.dM B T K) K) (Int.add (Sp.dS B T K) 0)) (Sp.rS (Int.mul (Sp.dM B T K) K) (Int.add (Sp.dS B T K) 0)) (Int.add (Sp.val B T) (Sp.val (Int.neg (Sp.rM (Int.mul (Sp.dM B T K) K) (Int.add (Sp.dS B T K) 0))) (Sp.rS (Int.mul (Sp.dM B T K) K) (Int.add (Sp.dS B T K) 0))))
  (Sp.rM (Int.add (Sp.val B T) (Sp.val (Int.neg (Sp.rM (Int.mul (Sp.dM B T K) K) (Int.add (Sp.dS B T K) 0))) (Sp.rS (Int.mul (Sp.dM B T K) K) (Int.add (Sp.dS B T K) 0)))) 6) (Sp.rS (Int.add (Sp.val B T) (Sp.val (Int.neg (Sp.rM (Int.mul (Sp.dM B T K) K) (Int.add (Sp.dS B T K) 0))) (Sp.rS (Int.mul (Sp.dM B T K) K) (Int.add (Sp.dS B T K) 0)))) 6)
noncomputable abbrev s8 : List KSpec := [(9, knownS), (13, goodS), (24, withinS), (25, divDS), (26, divDS), (18, mulS), (22, negS), (20, addS), (14, cmpS)]
theorem K8 (m p n : Int) : bodyU Tryd.prog (fiAt fis 8) s8 9 (code 8) (res 8) [.int .i64 m, .int .i64 p, .int .i64 n] =
    roundK (Sp.gM m p) (Sp.gS m p) n (roundK (Sp.gM m p) (Sp.gS m p) (wrapA .i64 (Int.add 1 (Int.emod n 50))) (roundK (Sp.gM m p) (Sp.gS m p) 1 (roundK (Sp.gM m p) (Sp.gS m p) 0 (roundK (Sp.gM m p) (Sp.gS m p) (wrapA .i64 (Int.sub (-1) (Int.emod n 9))) (roundK (Sp.gM m p) (Sp.gS m p) 9223372036854775807 (roundK (Sp.gM m p) (Sp.gS m p) 4611686018427387904
      (endK (Sp.gM (Int.tmod m 1000000) (Int.tmod p 5)) (Sp.gS (Int.tmod m 1000000) (Int.tmod p 5)) (wrapA .i64 (Int.add 1 (Int.emod n 50)))))))))) := by kernel_rfl
theorem neg_val {m s : Int} (h : Sp.valid m s = true) : Sp.valid (Int.neg m) s = true ∧ Sp.val (Int.neg m) s = -(Sp.val m s) := by
  obtain ⟨a, b, c, d, e⟩ := valid_iff.1 h
  refine ⟨valid_iff.2 ⟨by show _ < -m; omega, by show -m < _; omega, c, d, ?_⟩, by show -m * _ = -(m * _); rw [Int.neg_mul]⟩
  rcases e with e | e
  · exact .inl e
  · refine .inr ?_
    show (-m).tmod 10 ≠ 0
    rw [Int.neg_tmod]; omega
theorem round_ok {M S x : Int} (hv : Sp.valid M S = true) (hx : Sp.i64 x = true) (k : Option Value) : roundK M S x k = k := by
  unfold roundK
  rw [hv, hx, eqI_self, eqI_self, ite2_same]
  simp only [ltI_eq]
  by_cases h : x < 1
  · have hd : Sp.dB M S x = false := by unfold Sp.dB; rw [if_pos h]
    rw [hd, decide_eq_true h]; rfl
  · rw [decide_eq_false h]; rfl
theorem gd_small {b : Int} : ∀ (n : Nat) (m s : Int), -b ≤ m → m ≤ b → -b ≤ (Sp.gd n m s).1 ∧ (Sp.gd n m s).1 ≤ b := by
  intro n
  induction n with
  | zero => intro m s h1 h2; exact ⟨h1, h2⟩
  | succ n ih =>
    intro m s h1 h2
    unfold Sp.gd
    split
    · rename_i h
      have hd : m.tdiv 10 * 10 = m := by have := Int.tmod_add_mul_tdiv m 10; omega
      exact ih _ _ (by omega) (by omega)
    · exact ⟨h1, h2⟩
theorem small_gM (m p : Int) : -1000000 ≤ Sp.gM (m.tmod 1000000) p ∧ Sp.gM (m.tmod 1000000) p ≤ 1000000 := by
  have h := mod_cases m 1000000 (by omega)
  obtain ⟨x, hx⟩ : ∃ x, m.tmod 1000000 = x := ⟨_, rfl⟩
  rw [hx] at h ⊢
  have e : x.tmod 1000000000000000 = x := by
    by_cases h0 : 0 ≤ x
    · exact Int.tmod_eq_of_lt h0 (by omega)
    · have : (-x).tmod 1000000000000000 = -x := Int.tmod_eq_of_lt (by omega) (by omega)
      rw [Int.neg_tmod] at this; omega
  unfold Sp.gM
  rw [e]
  exact gd_small 7 x _ (by omega) (by omega)
theorem val_le {X Y : Int} (h : Sp.valid X Y = true) : (0 ≤ X → X ≤ Sp.val X Y) ∧ (X ≤ 0 → Sp.val X Y ≤ X) := by
  obtain ⟨-, -, y0, y1, -⟩ := valid_iff.1 h
  obtain ⟨p0, p1⟩ := p10_le (s := 6 - Y) (by omega) (by omega)
  unfold Sp.val
  refine ⟨fun h0 => ?_, fun h0 => ?_⟩
  · have := Int.mul_le_mul_of_nonneg_left p0 h0
    omega
  · have := Int.mul_le_mul_of_nonpos_left h0 p0
    omega
theorem end_ok {B T K : Int} (vB : Sp.valid B T = true) (b0 : -1000000 ≤ B) (b1 : B ≤ 1000000) (k0 : 1 ≤ K) (k1 : K ≤ 50) : endK B T K = some (.bool true) := by
  obtain ⟨-, -, t0, t1, -⟩ := valid_iff.1 vB
  obtain ⟨p0, p1⟩ := p10_le (s := 6 - T) (by omega) (by omega)
  -- the quotient, in millionths
  obtain ⟨v, hv⟩ : ∃ v, Sp.val B T = v := ⟨_, rfl⟩
  obtain ⟨a, ha⟩ : ∃ a, Sp.abs B * Sp.p10 (6 - T) = a := ⟨_, rfl⟩
  have a0 : 0 ≤ a := by rw [← ha]; exact Int.mul_nonneg (by unfold Sp.abs; split <;> omega) (by omega)
  have a1 : a ≤ 1000000 * 1000000 := by rw [← ha]; exact Int.mul_le_mul (by unfold Sp.abs; split <;> omega) p1 (by omega) (by omega)
  have av : (B < 0 ∧ v = -a) ∨ (¬B < 0 ∧ v = a) := by
    by_cases hB : B < 0
    · refine .inl ⟨hB, ?_⟩
      rw [← hv, ← ha]; unfold Sp.val Sp.abs; rw [if_pos hB, Int.neg_mul, Int.neg_neg]
    · refine .inr ⟨hB, ?_⟩
      rw [← hv, ← ha]; unfold Sp.val Sp.abs; rw [if_neg hB]
  have hdm := Int.mul_ediv_add_emod a K
  have m0 := Int.emod_nonneg a (show K ≠ 0 by omega)
  have m1 := Int.emod_lt_of_pos a (show 0 < K by omega)
  have q0 : 0 ≤ a / K := Int.ediv_nonneg a0 (by omega)
  have q1 : a / K ≤ a := Int.ediv_le_self K a0
  obtain ⟨q, hq⟩ : ∃ q, Sp.qot B T K = q := ⟨_, rfl⟩
  have qv : q = if B < 0 then -(a / K) else a / K := by
    rw [← hq]; unfold Sp.qot Sp.sg; rw [ha, ltI_eq]
    by_cases hB : B < 0
    · rw [if_pos (decide_eq_true hB), if_pos hB]
    · rw [if_neg (by simp; omega), if_neg hB]
  have qb : -1000000000000 ≤ q ∧ q ≤ 1000000000000 := by rw [qv]; split <;> omega
  have rq : Sp.rOk q 6 = true := by
    obtain ⟨e1, e2, e3⟩ := gd_end 13 q 6 (by omega) (by omega)
    obtain ⟨s1, s2⟩ := gd_small (b := 1000000000000) 13 q 6 (by omega) (by omega)
    exact rOk_iff.2 ⟨e3, by omega, by omega⟩
  have hk1 : ¬K < 1 := by omega
  have dB : Sp.dB B T K = true := by unfold Sp.dB; rw [if_neg hk1, hq]; exact rq
  obtain ⟨vX, eX⟩ := res_some rq
  unfold endK
  have dM : Sp.dM B T K = Sp.rM q 6 := by unfold Sp.dM; rw [if_neg hk1, hq]
  have dS : Sp.dS B T K = Sp.rS q 6 := by unfold Sp.dS; rw [if_neg hk1, hq]
  rw [dM, dS]
  obtain ⟨X, hX⟩ : ∃ X, Sp.rM q 6 = X := ⟨_, rfl⟩
  obtain ⟨Y, hY⟩ : ∃ Y, Sp.rS q 6 = Y := ⟨_, rfl⟩
  rw [hX, hY] at vX eX ⊢
  obtain ⟨-, -, y0, y1, -⟩ := valid_iff.1 vX
  have xl := val_le vX
  rw [eX] at xl
  have xb : -1000000000000 ≤ X ∧ X ≤ 1000000000000 := by
    by_cases h0 : 0 ≤ X
    · have := xl.1 h0; omega
    · have := xl.2 (by omega); omega
  have vK : Sp.valid K 0 = true := valid_iff.2 ⟨by omega, by omega, by omega, by omega, .inl rfl⟩
  -- and times the number again
  have xk : -50000000000000 ≤ X * K ∧ X * K ≤ 50000000000000 := by
    by_cases h0 : 0 ≤ X
    · have h1 := Int.mul_le_mul xb.2 k1 (by omega) (by omega)
      have h2 := Int.mul_nonneg h0 (show 0 ≤ K by omega)
      omega
    · have h1 : -X * K ≤ 1000000000000 * 50 := Int.mul_le_mul (by omega) k1 (by omega) (by omega)
      have h2 : 0 ≤ -X * K := Int.mul_nonneg (by omega) (by omega)
      rw [Int.neg_mul] at h1 h2; omega
  have rr : Sp.rOk (X * K) Y = true := by
    obtain ⟨e1, e2, e3⟩ := gd_end 13 (X * K) Y y0 (by omega)
    obtain ⟨s1, s2⟩ := gd_small (b := 50000000000000) 13 (X * K) Y (by omega) (by omega)
    exact rOk_iff.2 ⟨by omega, by omega, by omega⟩
  have vR : Sp.valid (Sp.rM (X * K) Y) (Sp.rS (X * K) Y) = true ∧ Sp.val (Sp.rM (X * K) Y) (Sp.rS (X * K) Y) = q * K := by
    obtain ⟨h1, h2, h3⟩ := rOk_iff.1 rr
    obtain ⟨g1, g2, g3⟩ := gd_end 13 (X * K) Y y0 (by omega)
    unfold Sp.rM Sp.rS
    rw [if_pos rr, if_pos rr]
    refine ⟨valid_iff.2 ⟨h2, h3, g2, h1, g1⟩, ?_⟩
    rw [gd_val 13 (X * K) Y (by omega) (by omega), ← eX]
    unfold Sp.val
    rw [Int.mul_right_comm]
  rw [show Int.mul X K = X * K from rfl, show Int.add Y 0 = Y from Int.add_zero Y]
  obtain ⟨R, hR⟩ : ∃ R, Sp.rM (X * K) Y = R := ⟨_, rfl⟩
  obtain ⟨Q, hQ⟩ : ∃ Q, Sp.rS (X * K) Y = Q := ⟨_, rfl⟩
  rw [hR, hQ] at vR ⊢
  obtain ⟨vR, eR⟩ := vR
  obtain ⟨nR, eN⟩ := neg_val vR
  have hA : Int.add (Sp.val B T) (Sp.val (Int.neg R) Q) = v - q * K := by rw [eN, eR, hv]; rfl
  rw [hA]
  have qk : q * K = if B < 0 then -(a / K * K) else a / K * K := by rw [qv]; split <;> simp [Int.neg_mul]
  have Ab : -49 ≤ v - q * K ∧ v - q * K ≤ 49 := by
    rw [Int.mul_comm] at hdm
    rw [qk]
    rcases av with ⟨h1, h2⟩ | ⟨h1, h2⟩
    · rw [if_pos h1]; omega
    · rw [if_neg h1]; omega
  obtain ⟨A, hA2⟩ : ∃ A, v - q * K = A := ⟨_, rfl⟩
  rw [hA2] at Ab ⊢
  have ra : Sp.rOk A 6 = true := by
    obtain ⟨e1, e2, e3⟩ := gd_end 13 A 6 (by omega) (by omega)
    obtain ⟨s1, s2⟩ := gd_small (b := 49) 13 A 6 (by omega) (by omega)
    exact rOk_iff.2 ⟨e3, by omega, by omega⟩
  obtain ⟨vU, eU⟩ := res_some ra
  obtain ⟨U, hU⟩ : ∃ U, Sp.rM A 6 = U := ⟨_, rfl⟩
  obtain ⟨V, hV⟩ : ∃ V, Sp.rS A 6 = V := ⟨_, rfl⟩
  rw [hU, hV] at vU eU ⊢
  obtain ⟨nU, eV⟩ := neg_val vU
  have e50 : Sp.val (Sp.gM 50 6) (Sp.gS 50 6) = 50 := by decide
  have o50 : Sp.ok (Sp.gM 50 6) (Sp.gS 50 6) = true := by decide
  have i64 : Sp.i64 K = true := decide_eq_true ⟨by omega, by omega⟩
  unfold tailK
  rw [vB, i64, dB, vX, vK, show Int.mul X K = X * K from rfl, show Int.add Y 0 = Y from Int.add_zero Y, rr, vR, nR, ra, vU, valid_ok nU, valid_ok vU, o50, e50, eV, eU]
  simp only [eqI_self]
  have c1 : leI (Sp.cmp (-A) 50) 0 = true := by
    rw [leI_dec]; have := cmp3b (-A) 50; exact decide_eq_true (by omega)
  have c2 : leI (Sp.cmp A 50) 0 = true := by
    rw [leI_dec]; have := cmp3b A 50; exact decide_eq_true (by omega)
  rw [c1, c2]
  cases ltI U 0 <;> rfl
theorem divs_says (m p n : Int) (hn : (Lit.int .i64 n).wf = true) : Says Tryd.prog 8 ⟨[.int .i64 m, .int .i64 p, .int .i64 n]⟩ (.bool true) := by
  refine says_of_K masks (s := s8) (fun x h => ?_) none 9 Tryd.func8 (by kernel_rfl) (c := code 8) (by kernel_rfl) (by kernel_rfl) rfl rfl rfl ?_
  · simp only [List.mem_cons, List.not_mem_nil, or_false] at h
    rcases h with rfl | rfl | rfl | rfl | rfl | rfl | rfl | rfl | rfl
    · exact known_h
    · exact good_h
    · exact within_h
    · exact divd_h
    · exact rdiv_h
    · exact mul_h
    · exact neg_h
    · exact add_h
    · exact cmp_h
  refine Eq.trans ?_ ((bodyU_eq Tryd.prog (fiAt fis 8) s8 9 (code 8) (res 8) [.int .i64 m, .int .i64 p, .int .i64 n]).symm.trans ((K8 m p n).trans ?_))
  · rfl
  have vA := good_valid m p
  have hn' : Sp.i64 n = true := by
    simp [Lit.wf, IntKind.min, IntKind.max, IntKind.signed, IntKind.bits] at hn
    exact decide_eq_true (by omega)
  have e1 : wrapA IntKind.i64 (Int.add 1 (Int.emod n 50)) = 1 + n % 50 := wrapA_i64 (show _ ≤ 1 + n % 50 by omega) (show 1 + n % 50 < _ by omega)
  have e2 : wrapA IntKind.i64 (Int.sub (-1) (Int.emod n 9)) = -1 - n % 9 := wrapA_i64 (show _ ≤ -1 - n % 9 by omega) (show -1 - n % 9 < _ by omega)
  rw [e1, e2, round_ok vA hn', round_ok vA (decide_eq_true (by omega)), round_ok vA (decide_eq_true (by omega)), round_ok vA (decide_eq_true (by omega)), round_ok vA (decide_eq_true (by omega)), round_ok vA (decide_eq_true (by omega)), round_ok vA (decide_eq_true (by omega))]
  have sB := small_gM m (p.tmod 5)
  exact end_ok (good_valid _ _) sB.1 sB.2 (by omega) (by omega)

end
end Go.Proofs.YtpnjbagpplodjaaDoor
