/- Contracts: small functions; numbers made decimals. -/
import Derived.Test.YtpnjbagpplodjaaDoorDeD
namespace Go.Proofs.YtpnjbagpplodjaaDoor
open Go.RowKit Go.Am
set_option maxRecDepth 1000000
set_option linter.unusedSimpArgs false
set_option linter.unusedVariables false
noncomputable section
/-! ### small contracts -/
theorem c1_some {l : List Value} {p : Nat × Nat} (h : c1 l = some p) : l = [.complex .f64 p.1 p.2] := by
  unfold c1 at h; split at h
  · obtain rfl := Option.some.inj h; rfl
  · cases h
theorem u3_some {l : List Value} {p : Int × Int × Int} (h : u3 l = some p) : l = [.int .u64 p.1, .int .u64 p.2.1, .int .u64 p.2.2] := by
  unfold u3 at h; split at h
  · obtain rfl := Option.some.inj h; rfl
  · cases h
theorem w4_some {l : List Value} {q : (Int × Int) × (Int × Bool)} (h : w4 l = some q) : l = [.int .u64 q.1.1, .int .u64 q.1.2, .int .i64 q.2.1, .bool q.2.2] := by
  unfold w4 at h; split at h
  · obtain rfl := Option.some.inj h; rfl
  · cases h
theorem db_some {l : List Value} {q : (Int × Int) × Bool} (h : db l = some q) : l = [decV q.1.1 q.1.2, .bool q.2] := by
  unfold db at h; split at h
  · obtain rfl := Option.some.inj h; rfl
  · cases h
theorem in62_iff {n : Int} : Sp.in62 n = true ↔ (-4611686018427387904 < n ∧ n < 4611686018427387904) := by simp [Sp.in62]
theorem in12_iff {n : Int} : Sp.in12 n = true ↔ (0 ≤ n ∧ n ≤ 12) := by simp [Sp.in12]
theorem abs_h : Holds Tryd.prog (41, absS) := holds_of_K masks (s := []) (fun _ h => by cases h) none Tryd.func41 (by kernel_rfl) (c := code 41) (by kernel_rfl) (rs := res 41) (by kernel_rfl) (by kernel_rfl) fun args v hG => by
  obtain ⟨n, h1, h⟩ := ob_some hG
  obtain ⟨hp, rfl⟩ := Prod.mk.inj (Option.some.inj h)
  rw [i1_some h1]
  refine ⟨rfl, rfl, rfl, 0, (K41 n _ _).trans ?_⟩
  have hb := in62_iff.1 hp
  unfold Sp.abs
  by_cases hn : n < 0
  · rw [ite2_pos (by rw [ltI_eq]; simpa using hn), if_pos hn, wrapA_u64', ← wrapA_eq, wrapA_u64']
    show some (Value.int .u64 ((0 - n % 18446744073709551616) % 18446744073709551616)) = _
    have e : (0 - n % 18446744073709551616) % 18446744073709551616 = -n := by omega
    rw [e]
  · rw [ite2_neg (by rw [ltI_eq]; simpa using hn), if_neg hn, wrapA_u64 (by omega) (by omega)]
theorem valid_h : Holds Tryd.prog (43, validS) := holds_of_K masks (s := []) (fun _ h => by cases h) none Tryd.func43 (by kernel_rfl) (c := code 43) (by kernel_rfl) (rs := res 43) (by kernel_rfl) (by kernel_rfl) fun args v hG => by
  obtain ⟨⟨m, s⟩, h1, h⟩ := ob_some hG
  obtain ⟨-, rfl⟩ := Prod.mk.inj (Option.some.inj h)
  rw [d1_some h1]
  refine ⟨rfl, rfl, rfl, 0, (K43 m s _ _).trans ?_⟩
  simp only [gtI_dec, ltI_eq, geI_dec, leI_dec, eqI_dec, neI_dec, ite2_if, decide_eq_true_eq, Sp.valid]
  rw [show Int.negSucc 999999999999999 = -1000000000000000 from rfl]
  by_cases a1 : -1000000000000000 < m <;> by_cases a2 : m < 1000000000000000 <;> by_cases a3 : 0 ≤ s <;> by_cases a4 : s ≤ 6 <;> by_cases a5 : s = 0 <;> by_cases a6 : m.tmod 10 = 0 <;> simp [a1, a2, a3, a4, a5, a6]
theorem point_h : Holds Tryd.prog (40, pointS) := holds_of_K masks (s := []) (fun _ h => by cases h) none Tryd.func40 (by kernel_rfl) (c := code 40) (by kernel_rfl) (rs := res 40) (by kernel_rfl) (by kernel_rfl) fun args v hG => by
  obtain ⟨⟨m, s⟩, h1, h⟩ := ob_some hG
  obtain ⟨-, rfl⟩ := Prod.mk.inj (Option.some.inj h)
  rw [d1_some h1]
  exact ⟨rfl, rfl, rfl, 0, (K40 m s _ _).trans rfl⟩
theorem of_h : Holds Tryd.prog (47, ofS) := holds_of_K masks (s := []) (fun _ h => by cases h) none Tryd.func47 (by kernel_rfl) (c := code 47) (by kernel_rfl) (rs := res 47) (by kernel_rfl) (by kernel_rfl) fun args v hG => by
  obtain ⟨⟨a, b⟩, h1, h⟩ := ob_some hG
  obtain ⟨hp, rfl⟩ := Prod.mk.inj (Option.some.inj h)
  rw [c1_some h1]
  refine ⟨rfl, rfl, rfl, 0, (K47 a b _ _).trans ?_⟩
  rw [Bool.and_eq_true] at hp
  simp only [Sp.fok] at hp
  obtain ⟨x, hx⟩ := Option.isSome_iff_exists.1 hp.1
  obtain ⟨y, hy⟩ := Option.isSome_iff_exists.1 hp.2
  rw [hx, hy]
  show some (decV x y) = some (decV (Sp.fi a) (Sp.fi b))
  unfold Sp.fi
  rw [hx, hy]; rfl
theorem fok_fl (n : Int) (h1 : -1000000000000000 < n) (h2 : n < 1000000000000000) : Sp.fok (Sp.fl n) = true ∧ Sp.fi (Sp.fl n) = n := by
  unfold Sp.fok Sp.fi Sp.fl
  rw [float_exact n (by omega) (by omega)]
  exact ⟨rfl, rfl⟩
theorem div0_h : Holds Tryd.prog (48, div64S) := holds_of_K masks (s := []) (fun _ h => by cases h) none Tryd.func48 (by kernel_rfl) (c := code 48) (by kernel_rfl) (rs := res 48) (by kernel_rfl) (by kernel_rfl) fun args v hG => by
  obtain ⟨⟨hi, lo, y⟩, h1, h⟩ := ob_some hG
  obtain ⟨hp, rfl⟩ := Prod.mk.inj (Option.some.inj h)
  rw [u3_some h1]
  simp only [Sp.dvOk, decide_eq_true_eq] at hp
  obtain ⟨rfl, l0, l1, y0, y1⟩ := hp
  refine ⟨rfl, rfl, rfl, 0, (K48 lo y _ _).trans ?_⟩
  have e0 : eqI y 0 = false := by rw [eqI_dec]; simp; omega
  have e1 : leI y 0 = false := by rw [leI_dec]; simp; omega
  rw [e0, e1]
  simp only [ite2_true, ite2_false]
  have q1 : lo.tdiv y = lo / y := Int.tdiv_eq_ediv_of_nonneg l0
  have q2 : lo.tmod y = lo % y := Int.tmod_eq_emod_of_nonneg l0
  have q3 : 0 ≤ lo / y := Int.ediv_nonneg l0 (by omega)
  have q4 : lo / y ≤ lo := Int.ediv_le_self y l0
  rw [q1, q2, wrapA_u64 q3 (by omega)]
  show some (Value.tuple ⟨[.int .u64 (lo / y), .int .u64 (lo % y)]⟩) = some (Value.tuple ⟨[.int .u64 ((0 * 18446744073709551616 + lo) / y), .int .u64 ((0 * 18446744073709551616 + lo) % y)]⟩)
  rw [show 0 * 18446744073709551616 + lo = lo by omega]
/-! ### numbers made decimals -/
theorem in12_n {s : Int} (h : Sp.in12 s = true) : s ≤ ((13 : Nat) : Int) ∧ 0 ≤ s := by have := in12_iff.1 h; omega
theorem norm_loop : ∀ (n : Nat) (m x : Int) (k : Nat), -4611686018427387904 < m → m < 4611686018427387904 → 0 ≤ x → x ≤ 12 → x ≤ n → n < k →
    ∃ tp, (ltow Tryd.prog (fiAt fis 36) (kcall []) none k).lp (codeAt (code 36) [1, 0, 0, 0]) (st36_1_0 m x false 0 0) = some (.exit 0, ex36_0 (Sp.gd n m x).1 (Sp.gd n m x).2 false 0 0 tp) := by
  intro n
  induction n with
  | zero =>
    intro m x k h1 h2 h3 h7 h4 hk
    obtain ⟨k, rfl⟩ : ∃ j, k = j + 1 := ⟨k - 1, by omega⟩
    rw [← ob_id ((ltow ..).lp _ _), lp_round, R36_1_0]
    rw [ite2_neg (by rw [gtI_dec]; simp; omega)]
    exact ⟨_, rfl⟩
  | succ n ih =>
    intro m x k h1 h2 h3 h7 h4 hk
    obtain ⟨k, rfl⟩ : ∃ j, k = j + 1 := ⟨k - 1, by omega⟩
    rw [← ob_id ((ltow ..).lp _ _), lp_round, R36_1_0]
    unfold Sp.gd
    by_cases hx : 0 < x
    · rw [ite2_pos (by rw [gtI_dec]; simp; exact hx)]
      by_cases hm : m.tmod 10 = 0
      · rw [ite2_pos (by rw [eqI_dec]; simp; exact hm), if_pos ⟨hx, hm⟩, ob_id]
        have hd : m.tdiv 10 * 10 = m := by have := Int.tmod_add_mul_tdiv m 10; omega
        rw [wrapA_i64 (by omega) (by omega), wrapA_i64 (by show _ ≤ x - 1; omega) (by show x - 1 < _; omega)]
        exact ih (m.tdiv 10) (x - 1) k (by omega) (by omega) (by omega) (by omega) (by omega) (by omega)
      · rw [ite2_neg (by rw [eqI_dec]; simp; exact hm), if_neg (fun h => hm h.2)]
        exact ⟨_, rfl⟩
    · rw [ite2_neg (by rw [gtI_dec]; simp; omega), if_neg (fun h => hx h.1)]
      exact ⟨_, rfl⟩
theorem norm_h : Holds Tryd.prog (36, normS) := holds_of_K masks (s := []) (fun _ h => by cases h) none Tryd.func36 (by kernel_rfl) (c := code 36) (by kernel_rfl) (rs := res 36) (by kernel_rfl) (by kernel_rfl) fun args v hG => by
  obtain ⟨⟨m, s⟩, h1, h⟩ := ob_some hG
  obtain ⟨hp, rfl⟩ := Prod.mk.inj (Option.some.inj h)
  rw [i2_some h1]
  rw [Bool.and_eq_true] at hp
  have hm := in62_iff.1 hp.1
  have hs := in12_iff.1 hp.2
  simp only at hm hs
  refine ⟨rfl, rfl, rfl, 14, ?_⟩
  obtain ⟨tp, hl⟩ := norm_loop 13 m s 14 hm.1 hm.2 hs.1 hs.2 (by omega) (by omega)
  refine (K36 m s _ _).trans ?_
  rw [show masks.l = fis from rfl, hl, ob_of]
  refine (C36_0_0 _ _ _ _ _ _ _ _).trans ?_
  cases ho : Sp.rOk m s with
  | true =>
    obtain ⟨a, b, c⟩ := rOk_iff.1 ho
    rw [decRes_ok ho, ite2_neg (by rw [gtI_dec]; simp; omega), ite2_neg (by rw [geI_dec]; simp; omega), ite2_neg (by rw [leI_dec]; simp; show -1000000000000000 < _; omega)]
    rfl
  | false =>
    have hn : ¬ ((Sp.gd 13 m s).2 ≤ 6 ∧ -1000000000000000 < (Sp.gd 13 m s).1 ∧ (Sp.gd 13 m s).1 < 1000000000000000) := fun h => by rw [rOk_iff.2 h] at ho; cases ho
    rw [decRes_no ho]
    by_cases a : 6 < (Sp.gd 13 m s).2
    · rw [ite2_pos (by rw [gtI_dec]; simpa using a)]; rfl
    · rw [ite2_neg (by rw [gtI_dec]; simpa using a)]
      by_cases b : 1000000000000000 ≤ (Sp.gd 13 m s).1
      · rw [ite2_pos (by rw [geI_dec]; simpa using b)]; rfl
      · rw [ite2_neg (by rw [geI_dec]; simpa using b), ite2_pos (by rw [leI_dec]; simp only [decide_eq_true_eq]; show (Sp.gd 13 m s).1 ≤ -1000000000000000; omega)]; rfl

end
end Go.Proofs.YtpnjbagpplodjaaDoor
