/- Contracts: digits printed by the reference. -/
import Derived.Test.YtpnjbagpplodjaaDoorDeI
namespace Go.Proofs.YtpnjbagpplodjaaDoor
open Go.RowKit Go.Am
set_option maxRecDepth 1000000
set_option linter.unusedSimpArgs false
set_option linter.unusedVariables false
noncomputable section
/-! ### digits -/
theorem s1_some {l : List Value} {a : ByteArray} (h : s1 l = some a) : l = [.string a] := by
  unfold s1 at h; split at h
  · obtain rfl := Option.some.inj h; rfl
  · cases h
theorem s2_some {l : List Value} {p : ByteArray × ByteArray} (h : s2 l = some p) : l = [.string p.1, .string p.2] := by
  unfold s2 at h; split at h
  · obtain rfl := Option.some.inj h; rfl
  · cases h
theorem digit_ob {β : Type} (n : Int) (h0 : 0 ≤ n) (f : Nat → Option β) : ob (nat? (wrapA .u8 (wrapA .i64 (Int.add 48 (n.tmod 10))))) f = f (48 + n.tmod 10).toNat := by
  have h := tsplit n 10 (by omega)
  have h2 := h.2.2.2.1 h0
  rw [show Int.add 48 (n.tmod 10) = 48 + n.tmod 10 from rfl, wrapA_i64 (x := 48 + n.tmod 10) (by omega) (by omega), wrapA_u8 (by omega) (by omega), ob_nat (by omega)]
theorem text_loop (w : Int) (hw0 : 0 ≤ w) (hw : w ≤ 7) : ∀ (k : Nat) (n : Int) (l : List UInt8) (j : Nat), 0 ≤ n → n < 1000000000000000 → n < 10 ^ k → w - l.length ≤ k → l.length + k ≤ 1000 → k < j →
    ∃ n' tp, (ltow Tryd.prog (fiAt fis 42) (kcall []) (some 6) j).lp (codeAt (code 42) [1, 1, 0, 0, 0]) (st42_2_0 n w (strOf l) ⟨⟨[]⟩⟩) = some (.exit 0, ex42_0 n' w (strOf (Sp.dg k n w l)) ⟨⟨[]⟩⟩ tp) := by
  intro k
  induction k with
  | zero =>
    intro n l j h0 h1 h2 h3 h4 hj
    obtain ⟨j, rfl⟩ : ∃ i, j = i + 1 := ⟨j - 1, by omega⟩
    rw [← ob_id ((ltow ..).lp _ _), lp_round, R42_2_0]
    have h2' : n < 1 := by simpa using h2
    rw [ite2_neg (show gtI n 0 = false by rw [gtI_dec]; simp; omega), ite2_neg (show ltI (Int.ofNat (lenS (strOf l))) w = false by rw [ltI_eq]; simp only [decide_eq_false_iff_not]; show ¬ ((l.length : Int) < w); simp at h3; omega)]
    exact ⟨_, _, rfl⟩
  | succ k ih =>
    intro n l j h0 h1 h2 h3 h4 hj
    obtain ⟨j, rfl⟩ : ∃ i, j = i + 1 := ⟨j - 1, by omega⟩
    rw [← ob_id ((ltow ..).lp _ _), lp_round, R42_2_0]
    have hd := tsplit n 10 (by omega)
    have hd2 := hd.2.2.2.1 h0
    have hp : n.tdiv 10 < 10 ^ k := by
      rw [Int.pow_succ] at h2
      generalize (10 : Int) ^ k = z at *
      omega
    have hlen : Nat.ble (Nat.add 1 (lenS (strOf l))) 9223372036854775807 = true := by
      simp only [Nat.ble_eq]; show 1 + l.length ≤ _; omega
    have hgo : ∃ n' tp, ob ((ltow Tryd.prog (fiAt fis 42) (kcall []) (some 6) j).lp (codeAt (code 42) [1, 1, 0, 0, 0]) (st42_2_0 (wrapA .i64 (n.tdiv 10)) w (catS ⟨⟨[UInt8.ofNat (48 + n.tmod 10).toNat]⟩⟩ (strOf l)) ⟨⟨[]⟩⟩)) some = some (.exit 0, ex42_0 n' w (strOf (Sp.dg k (n.tdiv 10) w (Sp.d8 (n.tmod 10) :: l))) ⟨⟨[]⟩⟩ tp) := by
      rw [ob_id, wrapA_i64 (by omega) (by omega)]
      exact ih (n.tdiv 10) (Sp.d8 (n.tmod 10) :: l) j (by omega) (by omega) hp (by simp; omega) (by simp; omega) (by omega)
    unfold Sp.dg
    by_cases hn : 0 < n
    · rw [ite2_pos (show gtI n 0 = true by rw [gtI_dec]; simpa using hn), digit_ob n h0, ite2_pos hlen, if_pos (.inl hn)]
      exact hgo
    · rw [ite2_neg (show gtI n 0 = false by rw [gtI_dec]; simpa using hn)]
      by_cases hl : (l.length : Int) < w
      · rw [ite2_pos (show ltI (Int.ofNat (lenS (strOf l))) w = true by rw [ltI_eq]; simp only [decide_eq_true_eq]; exact hl), digit_ob n h0, ite2_pos hlen, if_pos (.inr hl)]
        exact hgo
      · rw [ite2_neg (show ltI (Int.ofNat (lenS (strOf l))) w = false by rw [ltI_eq]; simp only [decide_eq_false_iff_not]; exact hl), if_neg (by omega)]
        exact ⟨_, _, rfl⟩
theorem p40 {n : Int} (h : n < 1000000000000000) : n < 10 ^ 40 := Int.lt_trans h (by decide)
theorem text_h : Holds Tryd.prog (42, textS) := holds_of_K masks (s := []) (fun _ h => by cases h) (some 6) Tryd.func42 (by kernel_rfl) (c := code 42) (by kernel_rfl) (rs := res 42) (by kernel_rfl) (by kernel_rfl) fun args v hG => by
  obtain ⟨⟨n, w⟩, h1, h⟩ := ob_some hG
  obtain ⟨hp, rfl⟩ := Prod.mk.inj (Option.some.inj h)
  rw [i2_some h1]
  simp only [Sp.in15p, decide_eq_true_eq] at hp
  obtain ⟨n0, n1, w0, w1⟩ := hp
  refine ⟨rfl, rfl, rfl, 41, (K42 n w _ _).trans ?_⟩
  obtain ⟨n', tp, hl⟩ := text_loop w w0 w1 40 n [] 41 n0 n1 (p40 n1) (by simp; omega) (by simp) (by omega)
  rw [show masks.l = fis from rfl, show (⟨⟨[]⟩⟩ : ByteArray) = strOf [] from rfl, show st42_2_0 n w (strOf []) (strOf []) = st42_2_0 n w (strOf []) ⟨⟨[]⟩⟩ from rfl, hl, ob_of]
  exact C42_0_0 _ _ _ _ _ _ _
theorem num_shift : ∀ (l : List UInt8) (a : Int), Sp.num a l = a * 10 ^ l.length + Sp.num 0 l := by
  intro l
  induction l with
  | nil => intro a; show a = a * 1 + 0; omega
  | cons b l ih =>
    intro a
    show Sp.num (10 * a + ((b.toNat : Int) - 48)) l = a * 10 ^ (l.length + 1) + Sp.num (10 * 0 + ((b.toNat : Int) - 48)) l
    rw [ih (10 * a + ((b.toNat : Int) - 48)), ih (10 * 0 + ((b.toNat : Int) - 48)), Int.pow_succ]
    generalize (10 : Int) ^ l.length = z
    generalize ((b.toNat : Int) - 48) = d
    rw [Int.add_mul, Int.mul_assoc 10 a z, ← Int.mul_assoc a z 10, Int.mul_comm (a * z) 10]
    have : (10 * 0 + d) * z = d * z := by congr 1; omega
    rw [this]
    omega
theorem d8_toNat (r : Int) (h0 : 0 ≤ r) (h1 : r < 10) : (Sp.d8 r).toNat = (48 + r).toNat := by
  unfold Sp.d8
  rw [UInt8.toNat_ofNat']
  exact Nat.mod_eq_of_lt (by omega)
/-- what is said of digits. -/
theorem dg_facts : ∀ (k : Nat) (n w : Int) (l : List UInt8), 0 ≤ n → n < 10 ^ k → w - l.length ≤ k → w ≤ (Sp.dg k n w l).length ∧ (Sp.dg k n w l).length ≤ l.length + k ∧ l.length ≤ (Sp.dg k n w l).length ∧
    Sp.num 0 (Sp.dg k n w l) = n * 10 ^ l.length + Sp.num 0 l ∧ (l.all Sp.dig = true → (Sp.dg k n w l).all Sp.dig = true) := by
  intro k
  induction k with
  | zero =>
    intro n w l h0 h1 h2
    have h1' : n < 1 := by simpa using h1
    refine ⟨by show w ≤ (l.length : Int); simp at h2; omega, by show l.length ≤ _; omega, Nat.le_refl _, ?_, fun h => h⟩
    show Sp.num 0 l = _
    rw [show n = 0 by omega]; omega
  | succ k ih =>
    intro n w l h0 h1 h2
    have hd := tsplit n 10 (by omega)
    have hd2 := hd.2.2.2.1 h0
    have hp : n.tdiv 10 < 10 ^ k := by
      rw [Int.pow_succ] at h1
      generalize (10 : Int) ^ k = z at *
      omega
    unfold Sp.dg
    split
    · obtain ⟨a, b, c, d, e⟩ := ih (n.tdiv 10) w (Sp.d8 (n.tmod 10) :: l) (by omega) hp (by simp; omega)
      simp only [List.length_cons] at a b c d e
      have hdg := d8_toNat (n.tmod 10) (by omega) (by omega)
      refine ⟨a, by omega, by omega, ?_, fun h => e ?_⟩
      · rw [d]
        show n.tdiv 10 * 10 ^ (l.length + 1) + Sp.num (10 * 0 + (((Sp.d8 (n.tmod 10)).toNat : Int) - 48)) l = n * 10 ^ l.length + Sp.num 0 l
        rw [num_shift l (10 * 0 + _), hdg, Int.pow_succ]
        have e1 : (10 * 0 + (((48 + n.tmod 10).toNat : Int) - 48)) = n.tmod 10 := by omega
        rw [e1]
        have e2 : n * 10 ^ l.length = (10 * n.tdiv 10 + n.tmod 10) * 10 ^ l.length := by rw [← hd.1]
        rw [e2]
        generalize (10 : Int) ^ l.length = z
        rw [Int.add_mul, ← Int.mul_assoc (n.tdiv 10) z 10, Int.mul_comm (n.tdiv 10 * z) 10, Int.mul_assoc 10 (n.tdiv 10) z]
        omega
      · rw [List.all_cons, h, Bool.and_true]
        simp only [Sp.dig, decide_eq_true_eq]
        rw [hdg]; omega
    · rename_i hc
      have hn : n = 0 := by omega
      refine ⟨by omega, by omega, Nat.le_refl _, by rw [hn]; omega, fun h => h⟩
theorem dg_append : ∀ (k : Nat) (n w : Int) (l : List UInt8), ∃ p, Sp.dg k n w l = p ++ l := by
  intro k
  induction k with
  | zero => intro n w l; exact ⟨[], rfl⟩
  | succ k ih =>
    intro n w l
    unfold Sp.dg
    split
    · obtain ⟨p, hp⟩ := ih (n.tdiv 10) w (Sp.d8 (n.tmod 10) :: l)
      exact ⟨p ++ [Sp.d8 (n.tmod 10)], by rw [hp]; simp⟩
    · exact ⟨[], rfl⟩
/-- a number's digits: how many, what they say, the last one. -/
theorem digits_facts (n w : Int) (h0 : 0 ≤ n) (h1 : n < 1000000000000000) (w0 : 0 ≤ w) (w1 : w ≤ 7) : ∃ D, Sp.digits n w = strOf D ∧ w ≤ (D.length : Int) ∧ D.length ≤ 40 ∧ Sp.num 0 D = n ∧ D.all Sp.dig = true ∧ (0 < w → ∃ p, D = p ++ [Sp.d8 (n.tmod 10)]) := by
  obtain ⟨a, b, c, d, e⟩ := dg_facts 40 n w [] h0 (p40 h1) (by simp; omega)
  refine ⟨Sp.dg 40 n w [], rfl, a, by simpa using b, by rw [d]; show n * 1 + 0 = n; omega, e rfl, fun hw => ?_⟩
  obtain ⟨p, hp⟩ := dg_append 39 (n.tdiv 10) w [Sp.d8 (n.tmod 10)]
  refine ⟨p, ?_⟩
  rw [← hp]
  show (if 0 < n ∨ (([] : List UInt8).length : Int) < w then Sp.dg 39 (n.tdiv 10) w (Sp.d8 (n.tmod 10) :: []) else []) = _
  rw [if_pos (.inr (by simpa using hw))]
/-! ### how the reference prints -/
theorem cat_is (a b : List UInt8) : catS (strOf a) (strOf b) = strOf (a ++ b) := rfl
theorem sub_is (a : List UInt8) (i j : Nat) : subS (strOf a) i j = strOf ((a.drop i).take (j - i)) := rfl
theorem len_is (a : List UInt8) : lenS (strOf a) = a.length := rfl
theorem lit_is (l : List UInt8) : (⟨⟨l⟩⟩ : ByteArray) = strOf l := rfl
theorem fits (x : Nat) (h : x ≤ 1000) : Nat.ble x 9223372036854775807 = true := by simp only [Nat.ble_eq]; omega
theorem rp_core (sg : List UInt8) (c : Nat) (hc : c ≤ 1) (hsg : sg.length ≤ 1) (D : List UInt8) (s : Int) (s0 : 0 ≤ s) (s1 : s ≤ 6) (d1 : s + 1 ≤ (D.length : Int)) (d2 : D.length ≤ 40) :
    ob (le? (wrapA .i64 (Int.sub (Int.ofNat (lenS (strOf D))) s)) (lenS (strOf D))) (fun y0 => (ite2 (Nat.ble (Nat.add c (lenS (subS (strOf D) 0 y0))) 9223372036854775807) (ite2 (gtI s (0 : Int)) (ite2 (Nat.ble (Nat.add (lenS (catS (strOf sg) (subS (strOf D) 0 y0))) 1) 9223372036854775807) (ob (le? (wrapA .i64 (Int.sub (Int.ofNat (lenS (strOf D))) s)) (lenS (strOf D))) fun y1 => (ite2 (Nat.ble (Nat.add (lenS (catS (catS (strOf sg) (subS (strOf D) 0 y0)) (⟨⟨[46]⟩⟩ : ByteArray))) (lenS (subS (strOf D) y1 (lenS (strOf D))))) 9223372036854775807) (some (Value.string (catS (catS (catS (strOf sg) (subS (strOf D) 0 y0)) (⟨⟨[46]⟩⟩ : ByteArray)) (subS (strOf D) y1 (lenS (strOf D)))))) (none))) (none)) (some (Value.string (catS (strOf sg) (subS (strOf D) 0 y0))))) (none))) =
      some (.string (strOf (sg ++ (D.take (D.length - s.toNat) ++ if 0 < s then 46 :: D.drop (D.length - s.toNat) else [])))) := by
  have e : Int.sub (Int.ofNat (lenS (strOf D))) s = (D.length : Int) - s := rfl
  have hx : ((D.length : Int) - s).toNat = D.length - s.toNat := by omega
  have hdr : (D.drop (D.length - s.toNat)).take (D.length - (D.length - s.toNat)) = D.drop (D.length - s.toNat) := List.take_of_length_le (by simp)
  rw [e, wrapA_i64 (x := (D.length : Int) - s) (by omega) (by omega), ob_le (by omega) (by rw [len_is]; omega), hx]
  simp only [lit_is, sub_is, cat_is, len_is, List.drop_zero, Nat.sub_zero]
  rw [ite2_pos (fits _ (by show c + _ ≤ 1000; simp only [List.length_take]; omega))]
  by_cases hs : 0 < s
  · rw [ite2_pos (show gtI s 0 = true by rw [gtI_dec]; simpa using hs), ite2_pos (fits _ (by show _ + 1 ≤ 1000; simp only [List.length_append, List.length_take]; omega)), ob_le (by omega) (by omega), hx, hdr, ite2_pos (fits _ (by show (_ : Nat) + _ ≤ 1000; simp only [List.length_append, List.length_take, List.length_drop, List.length_cons, List.length_nil]; omega)), if_pos hs]
    simp
  · rw [ite2_neg (show gtI s 0 = false by rw [gtI_dec]; simpa using hs), if_neg hs]
    simp
theorem rprint_h : Holds Tryd.prog (17, printS) := holds_of_K masks (s := [(42, textS)]) (fun x h => by rw [List.mem_singleton.1 h]; exact text_h) none Tryd.func17 (by kernel_rfl) (c := code 17) (by kernel_rfl) (rs := res 17) (by kernel_rfl) (by kernel_rfl) fun args v hG => by
  obtain ⟨⟨m, s⟩, h1, h⟩ := ob_some hG
  obtain ⟨hp, rfl⟩ := Prod.mk.inj (Option.some.inj h)
  rw [d1_some h1]
  refine ⟨rfl, rfl, rfl, 0, (K17 m s _ _).trans ?_⟩
  simp only at hp ⊢
  obtain ⟨m0, m1, s0, s1, _⟩ := valid_iff.1 hp
  rw [show Int.sub 0 m = -m from by show 0 - m = -m; omega, wrapA_i64 (x := -m) (by omega) (by omega), show Int.add s 1 = s + 1 from rfl, wrapA_i64 (x := s + 1) (by omega) (by omega)]
  unfold Sp.pr
  by_cases hm : m < 0
  · obtain ⟨D, hD, d1, d2, _⟩ := digits_facts (-m) (s + 1) (by omega) (by omega) (by omega) (by omega)
    rw [ite2_pos (show ltI m 0 = true by rw [ltI_eq]; simpa using hm), if_pos hm, if_pos hm, ite2_pos (show Sp.in15p (-m) (s + 1) = true from decide_eq_true ⟨by omega, by omega, by omega, by omega⟩), hD]
    exact rp_core [45] 1 (by omega) (by simp) D s s0 s1 d1 d2
  · obtain ⟨D, hD, d1, d2, _⟩ := digits_facts m (s + 1) (by omega) (by omega) (by omega) (by omega)
    rw [ite2_neg (show ltI m 0 = false by rw [ltI_eq]; simpa using hm), if_neg hm, if_neg hm, ite2_pos (show Sp.in15p m (s + 1) = true from decide_eq_true ⟨by omega, by omega, by omega, by omega⟩), hD]
    exact rp_core [] 0 (by omega) (by simp) D s s0 s1 d1 d2

end
end Go.Proofs.YtpnjbagpplodjaaDoor
