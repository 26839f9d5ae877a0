/- Contracts: printing by the program. -/
import Derived.Test.YtpnjbagpplodjaaDoorDeJ
namespace Go.Proofs.YtpnjbagpplodjaaDoor
open Go.RowKit Go.Am
set_option maxRecDepth 1000000
set_option linter.unusedSimpArgs false
set_option linter.unusedVariables false
noncomputable section
/-! ### how the program prints -/
theorem encode_small (r : Int) (h0 : 0 ≤ r) (h1 : r < 128) : Utf8.encode r = strOf [UInt8.ofNat r.toNat] := by
  unfold Utf8.encode
  have hv : Utf8.valid r = true := by
    unfold Utf8.valid
    simp only [Bool.or_eq_true, Bool.and_eq_true, decide_eq_true_eq]
    exact .inl ⟨h0, by omega⟩
  rw [hv]
  simp only [if_true]
  rw [if_pos (by omega)]; rfl
theorem digit_enc (n : Int) (h0 : 0 ≤ n) : Utf8.encode (wrapA .i32 (wrapA .u64 (Int.add 48 (n.tmod 10)))) = strOf [Sp.d8 (n.tmod 10)] := by
  have h := tsplit n 10 (by omega)
  have h2 := h.2.2.2.1 h0
  rw [show Int.add 48 (n.tmod 10) = 48 + n.tmod 10 from rfl, wrapA_u64 (x := 48 + n.tmod 10) (by omega) (by omega), wrapA_i32 (by omega) (by omega), encode_small _ (by omega) (by omega)]; rfl
abbrev s16 : List KSpec := [(40, pointS), (41, absS)]
theorem print_loop (m x1 x7 w : Int) (hw0 : 0 ≤ w) (hw : w ≤ 6) : ∀ (k : Nat) (n : Int) (l : List UInt8) (j : Nat), 0 ≤ n → n < 1000000000000000 → n < 10 ^ k → w + 1 - l.length ≤ k → l.length + k ≤ 1000 → k < j →
    ∃ n' tp, (ltow Tryd.prog (fiAt fis 16) (kcall s16) none j).lp (codeAt (code 16) [1, 1, 1, 1, 0, 1, 0, 0]) (st16_5_0 m x1 (strOf l) ⟨⟨[]⟩⟩ w n m x7) = some (.exit 0, ex16_0 m x1 (strOf (Sp.dg k n (w + 1) l)) ⟨⟨[]⟩⟩ w n' m x7 tp) := by
  intro k
  induction k with
  | zero =>
    intro n l j h0 h1 h2 h3 h4 hj
    obtain ⟨j, rfl⟩ : ∃ i, j = i + 1 := ⟨j - 1, by omega⟩
    rw [← ob_id ((ltow ..).lp _ _), lp_round, R16_5_0]
    have h2' : n < 1 := by simpa using h2
    rw [ite2_neg (show gtI n 0 = false by rw [gtI_dec]; simp; omega), ite2_neg (show leI (Int.ofNat (lenS (strOf l))) w = false by rw [leI_dec]; simp only [decide_eq_false_iff_not]; show ¬ ((l.length : Int) ≤ w); simp at h3; omega)]
    exact ⟨_, _, rfl⟩
  | succ k ih =>
    intro n l j h0 h1 h2 h3 h4 hj
    obtain ⟨j, rfl⟩ : ∃ i, j = i + 1 := ⟨j - 1, by omega⟩
    rw [← ob_id ((ltow ..).lp _ _), lp_round, R16_5_0]
    have hd := tsplit n 10 (by omega)
    have hd2 := hd.2.2.2.1 h0
    have hp : n.tdiv 10 < 10 ^ k := by
      rw [Int.pow_succ] at h2
      generalize (10 : Int) ^ k = z at *
      omega
    rw [digit_enc n h0]
    have hlen : Nat.ble (Nat.add (lenS (strOf [Sp.d8 (n.tmod 10)])) (lenS (strOf l))) 9223372036854775807 = true := fits _ (by show 1 + l.length ≤ 1000; omega)
    have hgo : ∃ n' tp, ob ((ltow Tryd.prog (fiAt fis 16) (kcall s16) none j).lp (codeAt (code 16) [1, 1, 1, 1, 0, 1, 0, 0]) (st16_5_0 m x1 (catS (strOf [Sp.d8 (n.tmod 10)]) (strOf l)) ⟨⟨[]⟩⟩ w (wrapA .u64 (n.tdiv 10)) m x7)) some = some (.exit 0, ex16_0 m x1 (strOf (Sp.dg k (n.tdiv 10) (w + 1) (Sp.d8 (n.tmod 10) :: l))) ⟨⟨[]⟩⟩ w n' m x7 tp) := by
      rw [ob_id, wrapA_u64 (by omega) (by omega)]
      exact ih (n.tdiv 10) (Sp.d8 (n.tmod 10) :: l) j (by omega) (by omega) hp (by simp; omega) (by simp; omega) (by omega)
    unfold Sp.dg
    by_cases hn : 0 < n
    · rw [ite2_pos (show gtI n 0 = true by rw [gtI_dec]; simpa using hn), ite2_pos hlen, if_pos (.inl hn)]
      exact hgo
    · rw [ite2_neg (show gtI n 0 = false by rw [gtI_dec]; simpa using hn)]
      by_cases hl : (l.length : Int) < w + 1
      · rw [ite2_pos (show leI (Int.ofNat (lenS (strOf l))) w = true by rw [leI_dec]; simp only [decide_eq_true_eq]; show (l.length : Int) ≤ w; omega), ite2_pos hlen, if_pos (.inr hl)]
        exact hgo
      · rw [ite2_neg (show leI (Int.ofNat (lenS (strOf l))) w = false by rw [leI_dec]; simp only [decide_eq_false_iff_not]; show ¬ ((l.length : Int) ≤ w); omega), if_neg (by omega)]
        exact ⟨_, _, rfl⟩
theorem print_end (m s : Int) (hp : Sp.valid m s = true) (hK : bodyK Tryd.prog (fiAt masks.l 16) s16 (ltow Tryd.prog (fiAt masks.l 16) (kcall s16) none 41).lp (ltow Tryd.prog (fiAt masks.l 16) (kcall s16) none 41).gs (code 16) (res 16) [decV m s] =
      (ite2 (Sp.in62 m) (ob ((ltow Tryd.prog (fiAt masks.l 16) (kcall s16) none 41).lp (codeAt (code 16) [1, 1, 1, 1, 0, 1, 0, 0]) (st16_5_0 m s (⟨⟨[]⟩⟩ : ByteArray) (⟨⟨[]⟩⟩ : ByteArray) s (Sp.abs m) m s)) fun r => (contAt Tryd.prog (fiAt fis 16) (kcallK s16) (kcall s16) (ltow Tryd.prog (fiAt masks.l 16) (kcall s16) none 41).lp (ltow Tryd.prog (fiAt masks.l 16) (kcall s16) none 41).gs (code 16) [1, 1, 1, 1, 0, 1, 0] (retK Tryd.prog (fiAt fis 16) (res 16))) r.1 r.2) none)) :
    bodyK Tryd.prog (fiAt masks.l 16) s16 (ltow Tryd.prog (fiAt masks.l 16) (kcall s16) none 41).lp (ltow Tryd.prog (fiAt masks.l 16) (kcall s16) none 41).gs (code 16) (res 16) [decV m s] = some (.string (Sp.pr m s)) := by
  obtain ⟨m0, m1, s0, s1, _⟩ := valid_iff.1 hp
  refine hK.trans ?_
  rw [in62_iff.2 ⟨by omega, by omega⟩, ite2_true]
  have ha : Sp.abs m = if m < 0 then -m else m := rfl
  have ha0 : 0 ≤ Sp.abs m ∧ Sp.abs m < 1000000000000000 := by rw [ha]; split <;> omega
  obtain ⟨n', tp, hl⟩ := print_loop m s s s s0 s1 40 (Sp.abs m) [] 41 ha0.1 ha0.2 (p40 ha0.2) (by simp; omega) (by simp) (by omega)
  rw [show masks.l = fis from rfl, show st16_5_0 m s (⟨⟨[]⟩⟩ : ByteArray) (⟨⟨[]⟩⟩ : ByteArray) s (Sp.abs m) m s = st16_5_0 m s (strOf []) ⟨⟨[]⟩⟩ s (Sp.abs m) m s from rfl, hl, ob_of]
  refine (C16_0_0 _ _ _ _ _ _ _ _ _ _ _).trans ?_
  obtain ⟨D, hD, d1, d2, _⟩ := digits_facts (Sp.abs m) (s + 1) ha0.1 ha0.2 (by omega) (by omega)
  have hD' : strOf (Sp.dg 40 (Sp.abs m) (s + 1) []) = strOf D := hD
  rw [hD']
  unfold Sp.pr
  rw [← ha, hD]
  have e : Int.sub (Int.ofNat (lenS (strOf D))) s = (D.length : Int) - s := rfl
  have hx : ((D.length : Int) - s).toNat = D.length - s.toNat := by omega
  have hdr : (D.drop (D.length - s.toNat)).take (D.length - (D.length - s.toNat)) = D.drop (D.length - s.toNat) := List.take_of_length_le (by simp)
  by_cases hs : 0 < s
  · rw [ite2_pos (show gtI s 0 = true by rw [gtI_dec]; simpa using hs), if_pos hs, e, wrapA_i64 (x := (D.length : Int) - s) (by omega) (by omega), ob_le (by omega) (by rw [len_is]; omega), hx]
    simp only [lit_is, sub_is, cat_is, len_is, List.drop_zero, Nat.sub_zero]
    rw [ite2_pos (fits _ (by show (_ : Nat) + 1 ≤ 1000; simp only [List.length_take]; omega)), ob_le (by omega) (by omega), hx, hdr, ite2_pos (fits _ (by show (_ : Nat) + _ ≤ 1000; simp only [List.length_append, List.length_take, List.length_drop, List.length_cons, List.length_nil]; omega))]
    by_cases hm : m < 0
    · rw [ite2_pos (show ltI m 0 = true by rw [ltI_eq]; simpa using hm), if_pos hm, ite2_pos (fits _ (by show 1 + _ ≤ 1000; simp only [List.length_append, List.length_take, List.length_drop, List.length_cons, List.length_nil]; omega))]
      simp [strL, strOf]
    · rw [ite2_neg (show ltI m 0 = false by rw [ltI_eq]; simpa using hm), if_neg hm]
      simp [strL, strOf]
  · rw [ite2_neg (show gtI s 0 = false by rw [gtI_dec]; simpa using hs), if_neg hs]
    have hs0 : s.toNat = 0 := by omega
    by_cases hm : m < 0
    · rw [ite2_pos (show ltI m 0 = true by rw [ltI_eq]; simpa using hm), if_pos hm, ite2_pos (fits _ (by show 1 + _ ≤ 1000; rw [len_is]; omega))]
      simp [strL, strOf, hs0, catS]
    · rw [ite2_neg (show ltI m 0 = false by rw [ltI_eq]; simpa using hm), if_neg hm]
      simp [strL, strOf, hs0]
theorem print_h : Holds Tryd.prog (16, printS) := holds_of_K masks (s := s16) (fun x h => by
    simp only [List.mem_cons, List.not_mem_nil, or_false] at h
    rcases h with rfl | rfl
    · exact point_h
    · exact abs_h) none Tryd.func16 (by kernel_rfl) (c := code 16) (by kernel_rfl) (rs := res 16) (by kernel_rfl) (by kernel_rfl) fun args v hG => by
  obtain ⟨⟨m, s⟩, h1, h⟩ := ob_some hG
  obtain ⟨hp, rfl⟩ := Prod.mk.inj (Option.some.inj h)
  rw [d1_some h1]
  refine ⟨rfl, rfl, rfl, 41, ?_⟩
  simp only at hp ⊢
  obtain ⟨m0, m1, s0, s1, _⟩ := valid_iff.1 hp
  revert hp
  refine six (p := fun s => Sp.valid m s = true → bodyK Tryd.prog (fiAt masks.l 16) s16 (ltow Tryd.prog (fiAt masks.l 16) (kcall s16) none 41).lp (ltow Tryd.prog (fiAt masks.l 16) (kcall s16) none 41).gs (code 16) (res 16) [decV m s] = some (.string (Sp.pr m s))) (fun i hp => ?_) s (in6_of s0 s1)
  match i with
  | 0 => exact print_end m 0 hp (K16_0 m _ _)
  | 1 => exact print_end m 1 hp (K16_1 m _ _)
  | 2 => exact print_end m 2 hp (K16_2 m _ _)
  | 3 => exact print_end m 3 hp (K16_3 m _ _)
  | 4 => exact print_end m 4 hp (K16_4 m _ _)
  | 5 => exact print_end m 5 hp (K16_5 m _ _)
  | 6 => exact print_end m 6 hp (K16_6 m _ _)

end
end Go.Proofs.YtpnjbagpplodjaaDoor
