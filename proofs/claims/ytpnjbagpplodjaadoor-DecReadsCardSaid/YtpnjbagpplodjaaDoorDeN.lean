/- What was printed is read as it was. -/
import Derived.Test.YtpnjbagpplodjaaDoorDeM
namespace Go.Proofs.YtpnjbagpplodjaaDoor
open Go.RowKit Go.Am
set_option maxRecDepth 1000000
set_option linter.unusedSimpArgs false
set_option linter.unusedVariables false
noncomputable section
/-! ### what was printed is read as it was -/
theorem dig_is {b : UInt8} (h : Sp.dig b = true) : 48 ≤ b.toNat ∧ b.toNat ≤ 57 := by simpa [Sp.dig] using h
theorem num_trim : ∀ l : List UInt8, Sp.num 0 (Lib.trimLeftS l [48]) = Sp.num 0 l := by
  intro l
  unfold Lib.trimLeftS
  induction l with
  | nil => rfl
  | cons b l ih =>
    rw [List.dropWhile_cons]
    by_cases hb : b = 48
    · subst hb
      have : ([48] : List UInt8).contains 48 = true := rfl
      rw [if_pos this, ih]; rfl
    · have : ¬ (([48] : List UInt8).contains b = true) := by simpa using hb
      rw [if_neg this]
theorem num_nonneg : ∀ (l : List UInt8) (a : Int), 0 ≤ a → l.all Sp.dig = true → 0 ≤ Sp.num a l := by
  intro l
  induction l with
  | nil => intro a h _; exact h
  | cons b l ih =>
    intro a h hd
    rw [List.all_cons, Bool.and_eq_true] at hd
    have := dig_is hd.1
    have h2 : 0 ≤ 10 * a + ((b.toNat : Int) - 48) := by omega
    exact ih (10 * a + ((b.toNat : Int) - 48)) h2 hd.2
theorem num_big (b : UInt8) (l : List UInt8) (hb : b ≠ 48) (hd : (b :: l).all Sp.dig = true) : (10 : Int) ^ l.length ≤ Sp.num 0 (b :: l) := by
  rw [List.all_cons, Bool.and_eq_true] at hd
  have h1 := dig_is hd.1
  have h2 : b.toNat ≠ 48 := fun e => hb (UInt8.toNat_inj.1 (by rw [e]; rfl))
  have h3 := num_nonneg l 0 (by omega) hd.2
  show (10 : Int) ^ l.length ≤ Sp.num (10 * 0 + ((b.toNat : Int) - 48)) l
  rw [num_shift l (10 * 0 + _)]
  have h4 : (1 : Int) ≤ 10 * 0 + ((b.toNat : Int) - 48) := by omega
  have h5 : (0 : Int) ≤ 10 ^ l.length := Int.le_of_lt (Int.pow_pos (by omega))
  have h6 := Int.mul_le_mul_of_nonneg_right h4 h5
  omega
theorem lead_len (l : List UInt8) (hd : l.all Sp.dig = true) (hn : Sp.num 0 l < 1000000000000000) : (Lib.trimLeftS l [48]).length ≤ 15 := by
  have h1 := num_trim l
  have h2 : (Lib.trimLeftS l [48]).all Sp.dig = true := all_dw _ _ _ hd
  have h3 : ∀ b q, Lib.trimLeftS l [48] = b :: q → b ≠ 48 := by
    intro b q e hb
    unfold Lib.trimLeftS at e
    have := List.head?_dropWhile_not (fun x => ([48] : List UInt8).contains x) l
    rw [e] at this
    simp [hb] at this
  cases he : Lib.trimLeftS l [48] with
  | nil => simp
  | cons b q =>
    rw [he] at h1 h2
    have h4 := num_big b q (h3 b q he) h2
    refine Nat.le_of_not_lt fun hlt => ?_
    simp only [List.length_cons] at hlt
    have h5 := Nat.pow_le_pow_right (show 0 < 10 by omega) (show 15 ≤ q.length by omega)
    have h6 : ((10 ^ 15 : Nat) : Int) ≤ (10 : Int) ^ q.length := by exact_mod_cast h5
    have h7 : ((10 ^ 15 : Nat) : Int) = 1000000000000000 := by decide
    omega
theorem tw_app (A B : List UInt8) (h : A.all Sp.dig = true) : ((A ++ 46 :: B).takeWhile fun b => !decide (b = 46)) = A ∧ (A.takeWhile fun b => !decide (b = 46)) = A := by
  induction A with
  | nil => exact ⟨rfl, rfl⟩
  | cons a A ih =>
    rw [List.all_cons, Bool.and_eq_true] at h
    have := dig_is h.1
    have ha : decide (a = 46) = false := by
      rw [decide_eq_false_iff_not]
      intro e; rw [e] at this; exact absurd this.1 (by decide)
    obtain ⟨i1, i2⟩ := ih h.2
    rw [List.cons_append, List.takeWhile_cons, List.takeWhile_cons, ha]
    simp only [Bool.not_false, if_true]
    exact ⟨by rw [i1], by rw [i2]⟩
theorem any_no (A : List UInt8) (h : A.all Sp.dig = true) : (A.any fun b => decide (b = 46)) = false := by
  rw [List.any_eq_false]
  intro b hb
  have := dig_is (List.all_eq_true.1 h b hb)
  simp only [decide_eq_true_eq]
  intro e; rw [e] at this; exact absurd this.1 (by decide)
theorem trimR_keep (q : List UInt8) (x : UInt8) (hx : x ≠ 48) : Lib.trimRightS (q ++ [x]) [48] = q ++ [x] := by
  unfold Lib.trimRightS
  rw [List.reverse_append, List.reverse_singleton, List.singleton_append, List.dropWhile_cons]
  have : ¬ (([48] : List UInt8).contains x = true) := by simpa using hx
  rw [if_neg this]
  simp
theorem body_of (sgn T : List UInt8) (hs : sgn = [45] ∨ (sgn = [] ∧ ∃ b q, T = b :: q ∧ Sp.dig b = true)) : Sp.neg (strOf (sgn ++ T)) = decide (sgn = [45]) ∧ strL (Sp.body (strOf (sgn ++ T))) = T := by
  rcases hs with rfl | ⟨rfl, b, q, rfl, hb⟩
  · have hn : Sp.neg (strOf ([45] ++ T)) = true := by
      show List.isPrefixOf [45] (45 :: T) = true
      simp [List.isPrefixOf]
    refine ⟨hn.trans (by decide), ?_⟩
    unfold Sp.body
    rw [hn, if_pos rfl]
    show Lib.trimPrefix (45 :: T) [45] = T
    unfold Lib.trimPrefix Lib.hasPrefix
    simp [List.isPrefixOf]
  · have hd := dig_is hb
    have h45 : b ≠ 45 := fun e => by rw [e] at hd; exact absurd hd.1 (by decide)
    have h43 : b ≠ 43 := fun e => by rw [e] at hd; exact absurd hd.1 (by decide)
    have hn : Sp.neg (strOf ([] ++ b :: q)) = false := by
      show List.isPrefixOf [45] (b :: q) = false
      simp [List.isPrefixOf, Ne.symm h45]
    refine ⟨hn.trans (by decide), ?_⟩
    unfold Sp.body
    rw [hn, if_neg (by decide)]
    show Lib.trimPrefix (b :: q) [43] = b :: q
    unfold Lib.trimPrefix Lib.hasPrefix
    simp [List.isPrefixOf, Ne.symm h43]
theorem back (m s : Int) (hv : Sp.valid m s = true) : Sp.short2 (Sp.pr m s) = true ∧ Sp.pB (Sp.pr m s) = true ∧ Sp.pM (Sp.pr m s) = m ∧ Sp.pS (Sp.pr m s) = s := by
  obtain ⟨m0, m1, s0, s1, hlast⟩ := valid_iff.1 hv
  obtain ⟨N, hN⟩ : ∃ N, (if m < 0 then -m else m) = N := ⟨_, rfl⟩
  have hN0 : 0 ≤ N ∧ N < 1000000000000000 := by rw [← hN]; split <;> omega
  obtain ⟨D, hD, d1, d2, d3, d4, d5⟩ := digits_facts N (s + 1) hN0.1 hN0.2 (by omega) (by omega)
  obtain ⟨p, hp⟩ := d5 (by omega)
  obtain ⟨k, hk⟩ : ∃ k, D.length - s.toNat = k := ⟨_, rfl⟩
  obtain ⟨sgn, hsgn⟩ : ∃ sgn : List UInt8, (if m < 0 then [45] else []) = sgn := ⟨_, rfl⟩
  obtain ⟨T, hT⟩ : ∃ T, D.take k ++ (if 0 < s then 46 :: D.drop k else []) = T := ⟨_, rfl⟩
  have hpr : Sp.pr m s = strOf (sgn ++ T) := by
    unfold Sp.pr
    rw [hN, hD, hsgn, ← hT]
    show strOf (sgn ++ (D.take (D.length - s.toNat) ++ if 0 < s then 46 :: D.drop (D.length - s.toNat) else [])) = _
    rw [hk]
  have hA : (D.take k).all Sp.dig = true := List.all_eq_true.2 fun x hx => List.all_eq_true.1 d4 x (List.mem_of_mem_take hx)
  have hTl : T.length ≤ 42 := by
    rw [← hT, List.length_append, List.length_take]
    split
    · simp only [List.length_cons, List.length_drop]; omega
    · simp only [List.length_nil]; omega
  have hsl : sgn.length ≤ 1 := by rw [← hsgn]; split <;> simp
  have hk1 : 1 ≤ k := by omega
  have hs : sgn = [45] ∨ (sgn = [] ∧ ∃ b q, T = b :: q ∧ Sp.dig b = true) := by
    by_cases hm : m < 0
    · exact .inl (by rw [← hsgn, if_pos hm])
    · refine .inr ⟨by rw [← hsgn, if_neg hm], ?_⟩
      cases hq : D.take k with
      | nil =>
        have := congrArg List.length hq
        rw [List.length_take] at this
        have h0 : ([] : List UInt8).length = 0 := rfl
        omega
      | cons b q =>
        rw [hq, List.all_cons, Bool.and_eq_true] at hA
        exact ⟨b, q ++ (if 0 < s then 46 :: D.drop k else []), by rw [← hT, hq]; rfl, hA.1⟩
  obtain ⟨hneg, hbody⟩ := body_of sgn T hs
  have hfront : strL (Sp.front (Sp.body (strOf (sgn ++ T)))) = D.take k := by
    show ((strL (Sp.body (strOf (sgn ++ T)))).takeWhile fun b => !decide (b = 46)) = _
    rw [hbody, ← hT]
    split
    · exact (tw_app _ _ hA).1
    · rw [List.append_nil]; exact (tw_app _ [] hA).2
  have htake : 0 < s ∨ D.take k = D := by
    by_cases h : 0 < s
    · exact .inl h
    · exact .inr (List.take_of_length_le (by omega))
  have hbehind : strL (Sp.behind (Sp.body (strOf (sgn ++ T)))) = D.drop k := by
    show ((strL (Sp.body (strOf (sgn ++ T)))).drop (((strL (Sp.body (strOf (sgn ++ T)))).takeWhile fun b => !decide (b = 46)).length + 1)) = _
    have hf : ((strL (Sp.body (strOf (sgn ++ T)))).takeWhile fun b => !decide (b = 46)) = D.take k := hfront
    rw [hf, hbody, ← hT]
    by_cases h : 0 < s
    · rw [if_pos h, List.drop_append, List.drop_of_length_le (by omega)]
      simp
    · rw [if_neg h, List.append_nil, List.drop_of_length_le (by omega), List.drop_of_length_le (by omega)]
  have hhas : (Sp.has (Sp.body (strOf (sgn ++ T))) && (strL (Sp.behind (Sp.body (strOf (sgn ++ T))))).isEmpty) = false := by
    by_cases h : 0 < s
    · rw [hbehind]
      cases hq : D.drop k with
      | nil => have := congrArg List.length hq; rw [List.length_drop] at this; have h0 : ([] : List UInt8).length = 0 := rfl; omega
      | cons b q => simp
    · have : Sp.has (Sp.body (strOf (sgn ++ T))) = false := by
        show ((strL (Sp.body (strOf (sgn ++ T)))).any fun b => decide (b = 46)) = false
        rw [hbody, ← hT, if_neg h, List.append_nil]
        exact any_no _ hA
      rw [this]; rfl
  have hpart : Sp.part (strOf (sgn ++ T)) = D.drop k := by
    unfold Sp.part
    rw [hbehind]
    by_cases h : 0 < s
    · have hkp : k ≤ p.length := by have := congrArg List.length hp; simp at this; omega
      rw [hp, List.drop_append_of_le_length hkp]
      refine trimR_keep _ _ ?_
      have hr : N.tmod 10 ≠ 0 := by
        have hl : m.tmod 10 ≠ 0 := by rcases hlast with e | e; exact absurd e (by omega); exact e
        rw [← hN]
        split
        · rw [Int.neg_tmod]; omega
        · exact hl
      have ht := tsplit N 10 (by omega)
      have ht2 := ht.2.2.2.1 hN0.1
      intro e
      have e2 := congrArg UInt8.toNat e
      rw [d8_toNat _ (by omega) (by omega)] at e2
      have : (48 : UInt8).toNat = 48 := rfl
      omega
    · rw [List.drop_of_length_le (by omega)]; rfl
  have hlead : Sp.lead (strOf (sgn ++ T)) = Lib.trimLeftS D [48] := by
    unfold Sp.lead
    rw [hfront, hpart, List.take_append_drop]
  have hplen : ((Sp.part (strOf (sgn ++ T))).length : Int) = s := by rw [hpart, List.length_drop]; omega
  have hne : (strL (Sp.front (Sp.body (strOf (sgn ++ T))))).isEmpty = false := by
    rw [hfront]
    cases hq : D.take k with
    | nil => have := congrArg List.length hq; rw [List.length_take] at this; have h0 : ([] : List UInt8).length = 0 := rfl; omega
    | cons b q => rfl
  have hOk : Sp.pOk (strOf (sgn ++ T)) = true := by
    unfold Sp.pOk
    rw [hne, hhas, hfront, hbehind, List.take_append_drop, d4]
    simp only [Bool.not_false, Bool.true_and, decide_eq_true_eq]
    rw [hlead]
    exact ⟨lead_len D d4 (by rw [d3]; exact hN0.2), by omega⟩
  have hpN : Sp.pN (strOf (sgn ++ T)) = m := by
    unfold Sp.pN
    rw [hneg, hlead, num_trim, d3]
    unfold Sp.sg
    by_cases hm : m < 0
    · rw [← hsgn, if_pos hm, if_pos (by decide)]
      rw [if_pos hm] at hN; omega
    · rw [← hsgn, if_neg hm, if_neg (by decide)]
      rw [if_neg hm] at hN; omega
  have hgd : Sp.gd 13 m s = (m, s) := gd_stop _ _ _ hlast s0
  have hro : Sp.rOk m s = true := rOk_iff.2 (by rw [hgd]; exact ⟨s1, m0, m1⟩)
  rw [hpr]
  refine ⟨decide_eq_true ?_, ?_, ?_, ?_⟩
  · show (sgn ++ T).length < 2000000000
    rw [List.length_append]; omega
  · unfold Sp.pB; rw [hOk, hpN, hplen, hro]; rfl
  · unfold Sp.pM; rw [if_pos hOk, hpN, hplen]; unfold Sp.rM; rw [if_pos hro, hgd]
  · unfold Sp.pS; rw [if_pos hOk, hpN, hplen]; unfold Sp.rS; rw [if_pos hro, hgd]

end
end Go.Proofs.YtpnjbagpplodjaaDoor
