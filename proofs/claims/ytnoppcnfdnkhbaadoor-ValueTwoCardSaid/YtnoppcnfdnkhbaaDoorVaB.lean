/- Contracts: small functions; whole numbers made decimals. -/
import Derived.Test.YtnoppcnfdnkhbaaDoorVaA
namespace Go.Proofs.YtnoppcnfdnkhbaaDoor
open Go.RowKit Go.Am
set_option maxRecDepth 1000000
set_option linter.unusedSimpArgs false
set_option linter.unusedVariables false
noncomputable section
theorem gd_stop (n : Nat) (m s : Int) (h : s = 0 ∨ m.tmod 10 ≠ 0) (hs : 0 ≤ s) : Sp.gd n m s = (m, s) := by
  cases n with
  | zero => rfl
  | succ n => unfold Sp.gd; rw [if_neg (by omega)]
theorem gd_fuel : ∀ (n : Nat) (m s : Int) (k : Nat), 0 ≤ s → s ≤ n → Sp.gd (n + k) m s = Sp.gd n m s := by
  intro n
  induction n with
  | zero => intro m s k h0 h1; rw [gd_stop _ _ _ (.inl (by omega)) h0, gd_stop _ _ _ (.inl (by omega)) h0]
  | succ n ih =>
    intro m s k h0 h1
    rw [show n + 1 + k = (n + k) + 1 by omega]
    unfold Sp.gd
    split
    · rename_i h; exact ih _ _ _ (by omega) (by omega)
    · rfl
theorem gd_neg : ∀ (n : Nat) (m s : Int), Sp.gd n (-m) s = (-(Sp.gd n m s).1, (Sp.gd n m s).2) := by
  intro n
  induction n with
  | zero => intro m s; rfl
  | succ n ih =>
    intro m s
    unfold Sp.gd
    rw [Int.neg_tmod, Int.neg_tdiv]
    by_cases h : 0 < s ∧ m.tmod 10 = 0
    · rw [if_pos ⟨h.1, by omega⟩, if_pos h, ih]
    · rw [if_neg (fun g => h ⟨g.1, by omega⟩), if_neg h]
theorem rOk_iff {n s : Int} : Sp.rOk n s = true ↔ ((Sp.gd 13 n s).2 ≤ 6 ∧ -1000000000000000 < (Sp.gd 13 n s).1 ∧ (Sp.gd 13 n s).1 < 1000000000000000) := by simp [Sp.rOk]
theorem res_none {n s : Int} (h : Sp.rOk n s = false) : Sp.rM n s = 0 ∧ Sp.rS n s = 0 := by
  unfold Sp.rM Sp.rS
  rw [h]; exact ⟨rfl, rfl⟩
theorem decRes_ok {n s : Int} (h : Sp.rOk n s = true) : decRes n s = .tuple ⟨[decV (Sp.gd 13 n s).1 (Sp.gd 13 n s).2, .bool true]⟩ := by
  unfold decRes Sp.rM Sp.rS; rw [h]; rfl
theorem decRes_no {n s : Int} (h : Sp.rOk n s = false) : decRes n s = .tuple ⟨[decV 0 0, .bool false]⟩ := by
  unfold decRes Sp.rM Sp.rS; rw [h]; rfl
theorem c1_some {l : List Value} {p : Nat × Nat} (h : c1 l = some p) : l = [.complex .f64 p.1 p.2] := by
  unfold c1 at h; split at h
  · obtain rfl := Option.some.inj h; rfl
  · cases h
theorem u3_some {l : List Value} {p : Int × Int × Int} (h : u3 l = some p) : l = [.int .u64 p.1, .int .u64 p.2.1, .int .u64 p.2.2] := by
  unfold u3 at h; split at h
  · obtain rfl := Option.some.inj h; rfl
  · cases h
theorem w4_some {l : List Value} {q : (Int × Int) × (Int × Bool)} (h : w4 l = some q) : l = [.int .u64 q.1.1, .int .u64 q.1.2, .int .i64 q.2.1, .bool q.2.2] := by
  unfold w4 at h; split at h
  · obtain rfl := Option.some.inj h; rfl
  · cases h
theorem in62_iff {n : Int} : Sp.in62 n = true ↔ (-4611686018427387904 < n ∧ n < 4611686018427387904) := by simp [Sp.in62]
theorem in12_iff {n : Int} : Sp.in12 n = true ↔ (0 ≤ n ∧ n ≤ 12) := by simp [Sp.in12]
theorem point_h : Holds Tryd.prog (59, pointS) := holds_of_K masks (s := []) (fun _ h => by cases h) none Tryd.func59 (by kernel_rfl) (c := code 59) (by kernel_rfl) (rs := res 59) (by kernel_rfl) (by kernel_rfl) fun args v hG => by
  obtain ⟨⟨m, s⟩, h1, h⟩ := ob_some hG
  obtain ⟨-, rfl⟩ := Prod.mk.inj (Option.some.inj h)
  rw [d1_some h1]
  exact ⟨rfl, rfl, rfl, 0, (K40 m s _ _).trans rfl⟩
theorem of_h : Holds Tryd.prog (58, ofS) := holds_of_K masks (s := []) (fun _ h => by cases h) none Tryd.func58 (by kernel_rfl) (c := code 58) (by kernel_rfl) (rs := res 58) (by kernel_rfl) (by kernel_rfl) fun args v hG => by
  obtain ⟨⟨a, b⟩, h1, h⟩ := ob_some hG
  obtain ⟨hp, rfl⟩ := Prod.mk.inj (Option.some.inj h)
  rw [c1_some h1]
  refine ⟨rfl, rfl, rfl, 0, (K47 a b _ _).trans ?_⟩
  rw [Bool.and_eq_true] at hp
  simp only [Sp.fok] at hp
  obtain ⟨x, hx⟩ := Option.isSome_iff_exists.1 hp.1
  obtain ⟨y, hy⟩ := Option.isSome_iff_exists.1 hp.2
  rw [hx, hy]
  show some (decV x y) = some (decV (Sp.fi a) (Sp.fi b))
  unfold Sp.fi
  rw [hx, hy]; rfl
theorem fok_fl (n : Int) (h1 : -1000000000000000 < n) (h2 : n < 1000000000000000) : Sp.fok (Sp.fl n) = true ∧ Sp.fi (Sp.fl n) = n := by
  unfold Sp.fok Sp.fi Sp.fl
  rw [float_exact n (by omega) (by omega)]
  exact ⟨rfl, rfl⟩
theorem div0_h : Holds Tryd.prog (57, div64S) := holds_of_K masks (s := []) (fun _ h => by cases h) none Tryd.func57 (by kernel_rfl) (c := code 57) (by kernel_rfl) (rs := res 57) (by kernel_rfl) (by kernel_rfl) fun args v hG => by
  obtain ⟨⟨hi, lo, y⟩, h1, h⟩ := ob_some hG
  obtain ⟨hp, rfl⟩ := Prod.mk.inj (Option.some.inj h)
  rw [u3_some h1]
  simp only [Sp.dvOk, decide_eq_true_eq] at hp
  obtain ⟨rfl, l0, l1, y0, y1⟩ := hp
  refine ⟨rfl, rfl, rfl, 0, (K48 lo y _ _).trans ?_⟩
  have e0 : eqI y 0 = false := by rw [eqI_dec]; simp; omega
  have e1 : leI y 0 = false := by rw [leI_dec]; simp; omega
  rw [e0, e1]
  simp only [ite2_true, ite2_false]
  have q1 : lo.tdiv y = lo / y := Int.tdiv_eq_ediv_of_nonneg l0
  have q2 : lo.tmod y = lo % y := Int.tmod_eq_emod_of_nonneg l0
  have q3 : 0 ≤ lo / y := Int.ediv_nonneg l0 (by omega)
  have q4 : lo / y ≤ lo := Int.ediv_le_self y l0
  rw [q1, q2, wrapA_u64 q3 (by omega)]
  show some (Value.tuple ⟨[.int .u64 (lo / y), .int .u64 (lo % y)]⟩) = some (Value.tuple ⟨[.int .u64 ((0 * 18446744073709551616 + lo) / y), .int .u64 ((0 * 18446744073709551616 + lo) % y)]⟩)
  rw [show 0 * 18446744073709551616 + lo = lo by omega]
theorem norm_loop : ∀ (n : Nat) (m x : Int) (k : Nat), -4611686018427387904 < m → m < 4611686018427387904 → 0 ≤ x → x ≤ 12 → x ≤ n → n < k →
    ∃ tp, (ltow Tryd.prog (fiAt fis 43) (kcall []) none k).lp (codeAt (code 43) [1, 0, 0, 0]) (st36_1_0 m x false 0 0) = some (.exit 0, ex36_0 (Sp.gd n m x).1 (Sp.gd n m x).2 false 0 0 tp) := by
  intro n
  induction n with
  | zero =>
    intro m x k h1 h2 h3 h7 h4 hk
    obtain ⟨k, rfl⟩ : ∃ j, k = j + 1 := ⟨k - 1, by omega⟩
    rw [← ob_id ((ltow ..).lp _ _), lp_round, R36_1_0]
    rw [ite2_neg (by rw [gtI_dec]; simp; omega)]
    exact ⟨_, rfl⟩
  | succ n ih =>
    intro m x k h1 h2 h3 h7 h4 hk
    obtain ⟨k, rfl⟩ : ∃ j, k = j + 1 := ⟨k - 1, by omega⟩
    rw [← ob_id ((ltow ..).lp _ _), lp_round, R36_1_0]
    unfold Sp.gd
    by_cases hx : 0 < x
    · rw [ite2_pos (by rw [gtI_dec]; simp; exact hx)]
      by_cases hm : m.tmod 10 = 0
      · rw [ite2_pos (by rw [eqI_dec]; simp; exact hm), if_pos ⟨hx, hm⟩, ob_id]
        have hd : m.tdiv 10 * 10 = m := by have := Int.tmod_add_mul_tdiv m 10; omega
        rw [wrapA_i64 (by omega) (by omega), wrapA_i64 (by show _ ≤ x - 1; omega) (by show x - 1 < _; omega)]
        exact ih (m.tdiv 10) (x - 1) k (by omega) (by omega) (by omega) (by omega) (by omega) (by omega)
      · rw [ite2_neg (by rw [eqI_dec]; simp; exact hm), if_neg (fun h => hm h.2)]
        exact ⟨_, rfl⟩
    · rw [ite2_neg (by rw [gtI_dec]; simp; omega), if_neg (fun h => hx h.1)]
      exact ⟨_, rfl⟩
theorem norm_h : Holds Tryd.prog (43, normS) := holds_of_K masks (s := []) (fun _ h => by cases h) none Tryd.func43 (by kernel_rfl) (c := code 43) (by kernel_rfl) (rs := res 43) (by kernel_rfl) (by kernel_rfl) fun args v hG => by
  obtain ⟨⟨m, s⟩, h1, h⟩ := ob_some hG
  obtain ⟨hp, rfl⟩ := Prod.mk.inj (Option.some.inj h)
  rw [i2_some h1]
  rw [Bool.and_eq_true] at hp
  have hm := in62_iff.1 hp.1
  have hs := in12_iff.1 hp.2
  simp only at hm hs
  refine ⟨rfl, rfl, rfl, 14, ?_⟩
  obtain ⟨tp, hl⟩ := norm_loop 13 m s 14 hm.1 hm.2 hs.1 hs.2 (by omega) (by omega)
  refine (K36 m s _ _).trans ?_
  rw [show masks.l = fis from rfl, hl, ob_of]
  refine (C36_0_0 _ _ _ _ _ _ _ _).trans ?_
  cases ho : Sp.rOk m s with
  | true =>
    obtain ⟨a, b, c⟩ := rOk_iff.1 ho
    rw [decRes_ok ho, ite2_neg (by rw [gtI_dec]; simp; omega), ite2_neg (by rw [geI_dec]; simp; omega), ite2_neg (by rw [leI_dec]; simp; show -1000000000000000 < _; omega)]
    rfl
  | false =>
    have hn : ¬ ((Sp.gd 13 m s).2 ≤ 6 ∧ -1000000000000000 < (Sp.gd 13 m s).1 ∧ (Sp.gd 13 m s).1 < 1000000000000000) := fun h => by rw [rOk_iff.2 h] at ho; cases ho
    rw [decRes_no ho]
    by_cases a : 6 < (Sp.gd 13 m s).2
    · rw [ite2_pos (by rw [gtI_dec]; simpa using a)]; rfl
    · rw [ite2_neg (by rw [gtI_dec]; simpa using a)]
      by_cases b : 1000000000000000 ≤ (Sp.gd 13 m s).1
      · rw [ite2_pos (by rw [geI_dec]; simpa using b)]; rfl
      · rw [ite2_neg (by rw [geI_dec]; simpa using b), ite2_pos (by rw [leI_dec]; simp only [decide_eq_true_eq]; show (Sp.gd 13 m s).1 ≤ -1000000000000000; omega)]; rfl

theorem whole_stop {lo x : Int} {below : Bool} (hst : x = 0 ∨ lo.tmod 10 ≠ 0) (h3 : 0 ≤ x) : Sp.gd 13 (Sp.sg below lo) x = (Sp.sg below lo, x) := by
  refine gd_stop _ _ _ ?_ h3
  rcases hst with h | h
  · exact .inl h
  · refine .inr ?_
    unfold Sp.sg
    cases below
    · exact h
    · show (-lo).tmod 10 ≠ 0
      rw [Int.neg_tmod]; omega
theorem whole_no {lo x : Int} {below : Bool} (hst : x = 0 ∨ lo.tmod 10 ≠ 0) (h0 : 0 ≤ lo) (h3 : 0 ≤ x) (h : 1000000000000000 ≤ lo ∨ 6 < x) : Sp.rOk (Sp.sg below lo) x = false := by
  cases ho : Sp.rOk (Sp.sg below lo) x with
  | false => rfl
  | true =>
    have := rOk_iff.1 ho
    rw [whole_stop hst h3] at this
    simp only [Sp.sg] at this
    split at this <;> omega
theorem whole_yes {lo x : Int} {below : Bool} (hst : x = 0 ∨ lo.tmod 10 ≠ 0) (h0 : 0 ≤ lo) (h3 : 0 ≤ x) (h1 : lo < 1000000000000000) (h6 : x ≤ 6) : Sp.rOk (Sp.sg below lo) x = true ∧ Sp.rM (Sp.sg below lo) x = Sp.sg below lo ∧ Sp.rS (Sp.sg below lo) x = x := by
  have e := whole_stop (below := below) hst h3
  have ho : Sp.rOk (Sp.sg below lo) x = true := rOk_iff.2 (by
    rw [e]
    simp only [Sp.sg]
    split <;> omega)
  exact ⟨ho, by unfold Sp.rM; rw [if_pos ho, e], by unfold Sp.rS; rw [if_pos ho, e]⟩
theorem gd_sg (n : Nat) (b : Bool) (m s : Int) : Sp.gd n (Sp.sg b m) s = (Sp.sg b (Sp.gd n m s).1, (Sp.gd n m s).2) := by
  cases b
  · rfl
  · exact gd_neg n m s
theorem res_ten {lo x : Int} {below : Bool} (hx : 0 < x) (h12 : x ≤ 12) (hm : lo.tmod 10 = 0) : Sp.rOk (Sp.sg below lo) x = Sp.rOk (Sp.sg below (lo.tdiv 10)) (x - 1) ∧ Sp.rM (Sp.sg below lo) x = Sp.rM (Sp.sg below (lo.tdiv 10)) (x - 1) ∧ Sp.rS (Sp.sg below lo) x = Sp.rS (Sp.sg below (lo.tdiv 10)) (x - 1) := by
  have e : Sp.gd 13 (Sp.sg below lo) x = Sp.gd 13 (Sp.sg below (lo.tdiv 10)) (x - 1) := by
    rw [gd_sg, gd_sg]
    have h1 : Sp.gd 13 lo x = Sp.gd 12 (lo.tdiv 10) (x - 1) := by
      conv => lhs; unfold Sp.gd
      rw [if_pos ⟨hx, hm⟩]
    have h2 := gd_fuel 12 (lo.tdiv 10) (x - 1) 1 (by omega) (by omega)
    rw [h1, ← h2]
  unfold Sp.rM Sp.rS Sp.rOk
  rw [e]
  exact ⟨rfl, rfl, rfl⟩
abbrev s33 : List KSpec := [(57, div64S), (59, pointS), (58, ofS)]
theorem dv0 (lo : Int) (h0 : 0 ≤ lo) (h1 : lo < 4611686018427387904) : Sp.dvOk (Int.tmod 0 10) lo 10 = true ∧ Sp.dvR (Int.tmod 0 10) lo 10 = lo.tmod 10 ∧ Sp.dvQ (Int.tmod 0 10) lo 10 = lo.tdiv 10 := by
  have e : Int.tmod 0 10 = 0 := rfl
  rw [e]
  refine ⟨decide_eq_true ⟨rfl, h0, by omega, by omega, by omega⟩, ?_, ?_⟩
  · unfold Sp.dvR; rw [Int.tmod_eq_emod_of_nonneg h0]; congr 1; omega
  · unfold Sp.dvQ; rw [Int.tdiv_eq_ediv_of_nonneg h0]; congr 1; omega
theorem find33 : findLabel (codeAt (code 40) [1, 0]) 0 = some (restAt (codeAt (code 40) [1, 0]) 0) := by kernel_rfl
theorem whole_loop (below : Bool) : ∀ (n : Nat) (lo x : Int) (k : Nat), 0 ≤ lo → lo < 4611686018427387904 → 0 ≤ x → x ≤ 12 → x ≤ n → n < k →
    ∃ a b c tp, (ltow Tryd.prog (fiAt fis 40) (kcall s33) none k).gs (codeAt (code 40) [1, 0]) 0 (st33_100001_0 0 lo below false x 0 0) =
      some (.ret, ex33_0 a b below (Sp.rOk (Sp.sg below lo) x) c (Sp.rM (Sp.sg below lo) x) (Sp.rS (Sp.sg below lo) x) tp) := by
  intro n
  induction n with
  | zero =>
    intro lo x k h0 h1 h3 h7 h4 hk
    obtain ⟨k, rfl⟩ : ∃ j, k = j + 1 := ⟨k - 1, by omega⟩
    rw [← ob_id ((ltow ..).gs _ _ _), gs_round find33, R33_100001_0]
    rw [ite2_neg (show gtI x 0 = false from by rw [gtI_dec]; simp; omega)]
    have hst : x = 0 ∨ lo.tmod 10 ≠ 0 := .inl (by omega)
    rw [ite2_neg (show gtI 0 0 = false from by rw [gtI_dec]; rfl)]
    by_cases hb : 1000000000000000 ≤ lo
    · have ho : Sp.rOk (Sp.sg below lo) x = false := whole_no hst h0 h3 (.inl hb)
      rw [ite2_pos (show geI lo 1000000000000000 = true from by rw [geI_dec]; simpa using hb)]
      obtain ⟨z1, z2⟩ := res_none ho; exact ⟨_, _, _, _, by rw [ho, z1, z2]⟩
    rw [ite2_neg (show geI lo 1000000000000000 = false from by rw [geI_dec]; simpa using hb)]
    by_cases h6 : 6 < x
    · have ho : Sp.rOk (Sp.sg below lo) x = false := whole_no hst h0 h3 (.inr h6)
      rw [ite2_pos (show gtI x 6 = true from by rw [gtI_dec]; simpa using h6)]
      obtain ⟨z1, z2⟩ := res_none ho; exact ⟨_, _, _, _, by rw [ho, z1, z2]⟩
    rw [ite2_neg (show gtI x 6 = false from by rw [gtI_dec]; simpa using h6)]
    obtain ⟨ho, hM, hS⟩ := whole_yes (below := below) hst h0 h3 (by omega) (by omega)
    obtain ⟨f1, f2⟩ := fok_fl x (by omega) (by omega)
    cases below
    · obtain ⟨f3, f4⟩ := fok_fl lo (by omega) (by omega)
      rw [ite2_false, wrapA_i64 (x := lo) (by omega) (by omega), f3, f1, f4, f2]
      exact ⟨_, _, _, _, by rw [ho, hM, hS]; rfl⟩
    · obtain ⟨f3, f4⟩ := fok_fl (0 - lo) (by omega) (by omega)
      rw [ite2_true, wrapA_i64 (x := lo) (by omega) (by omega), show Int.sub 0 lo = 0 - lo from rfl, ← wrapA_eq, wrapA_i64 (x := 0 - lo) (by omega) (by omega), f3, f1, f4, f2, show 0 - lo = -lo by omega]
      exact ⟨_, _, _, _, by rw [ho, hM, hS]; rfl⟩
  | succ n ih =>
    intro lo x k h0 h1 h3 h7 h4 hk
    obtain ⟨k, rfl⟩ : ∃ j, k = j + 1 := ⟨k - 1, by omega⟩
    obtain ⟨d1, d2, d3⟩ := dv0 lo h0 h1
    have hsp := tsplit lo 10 (by omega)
    rw [← ob_id ((ltow ..).gs _ _ _), gs_round find33, R33_100001_0]
    by_cases hx : 0 < x
    · rw [ite2_pos (show gtI x 0 = true from by rw [gtI_dec]; simpa using hx), ite2_pos d1]
      by_cases hm : lo.tmod 10 = 0
      · rw [ite2_pos (by rw [d2, eqI_dec]; simpa using hm), ob_id, d3, show wrapA .u64 (Int.tdiv 0 10) = 0 from rfl, show Int.sub x 1 = x - 1 from rfl, wrapA_i64 (show _ ≤ x - 1 by omega) (show x - 1 < _ by omega)]
        obtain ⟨r1, r2, r3⟩ := res_ten (below := below) hx h7 hm
        rw [r1, r2, r3]
        exact ih (lo.tdiv 10) (x - 1) k (by omega) (by omega) (by omega) (by omega) (by omega) (by omega)
      · rw [ite2_neg (by rw [d2, eqI_dec]; simpa using hm)]
        have hst : x = 0 ∨ lo.tmod 10 ≠ 0 := .inr hm
        rw [ite2_neg (show gtI 0 0 = false from by rw [gtI_dec]; rfl)]
        by_cases hb : 1000000000000000 ≤ lo
        · have ho : Sp.rOk (Sp.sg below lo) x = false := whole_no hst h0 h3 (.inl hb)
          rw [ite2_pos (show geI lo 1000000000000000 = true from by rw [geI_dec]; simpa using hb)]
          obtain ⟨z1, z2⟩ := res_none ho; exact ⟨_, _, _, _, by rw [ho, z1, z2]⟩
        rw [ite2_neg (show geI lo 1000000000000000 = false from by rw [geI_dec]; simpa using hb)]
        by_cases h6 : 6 < x
        · have ho : Sp.rOk (Sp.sg below lo) x = false := whole_no hst h0 h3 (.inr h6)
          rw [ite2_pos (show gtI x 6 = true from by rw [gtI_dec]; simpa using h6)]
          obtain ⟨z1, z2⟩ := res_none ho; exact ⟨_, _, _, _, by rw [ho, z1, z2]⟩
        rw [ite2_neg (show gtI x 6 = false from by rw [gtI_dec]; simpa using h6)]
        obtain ⟨ho, hM, hS⟩ := whole_yes (below := below) hst h0 h3 (by omega) (by omega)
        obtain ⟨f1, f2⟩ := fok_fl x (by omega) (by omega)
        cases below
        · obtain ⟨f3, f4⟩ := fok_fl lo (by omega) (by omega)
          rw [ite2_false, wrapA_i64 (x := lo) (by omega) (by omega), f3, f1, f4, f2]
          exact ⟨_, _, _, _, by rw [ho, hM, hS]; rfl⟩
        · obtain ⟨f3, f4⟩ := fok_fl (0 - lo) (by omega) (by omega)
          rw [ite2_true, wrapA_i64 (x := lo) (by omega) (by omega), show Int.sub 0 lo = 0 - lo from rfl, ← wrapA_eq, wrapA_i64 (x := 0 - lo) (by omega) (by omega), f3, f1, f4, f2, show 0 - lo = -lo by omega]
          exact ⟨_, _, _, _, by rw [ho, hM, hS]; rfl⟩
    · rw [ite2_neg (show gtI x 0 = false from by rw [gtI_dec]; simpa using hx)]
      have hst : x = 0 ∨ lo.tmod 10 ≠ 0 := .inl (by omega)
      rw [ite2_neg (show gtI 0 0 = false from by rw [gtI_dec]; rfl)]
      by_cases hb : 1000000000000000 ≤ lo
      · have ho : Sp.rOk (Sp.sg below lo) x = false := whole_no hst h0 h3 (.inl hb)
        rw [ite2_pos (show geI lo 1000000000000000 = true from by rw [geI_dec]; simpa using hb)]
        obtain ⟨z1, z2⟩ := res_none ho; exact ⟨_, _, _, _, by rw [ho, z1, z2]⟩
      rw [ite2_neg (show geI lo 1000000000000000 = false from by rw [geI_dec]; simpa using hb)]
      by_cases h6 : 6 < x
      · have ho : Sp.rOk (Sp.sg below lo) x = false := whole_no hst h0 h3 (.inr h6)
        rw [ite2_pos (show gtI x 6 = true from by rw [gtI_dec]; simpa using h6)]
        obtain ⟨z1, z2⟩ := res_none ho; exact ⟨_, _, _, _, by rw [ho, z1, z2]⟩
      rw [ite2_neg (show gtI x 6 = false from by rw [gtI_dec]; simpa using h6)]
      obtain ⟨ho, hM, hS⟩ := whole_yes (below := below) hst h0 h3 (by omega) (by omega)
      obtain ⟨f1, f2⟩ := fok_fl x (by omega) (by omega)
      cases below
      · obtain ⟨f3, f4⟩ := fok_fl lo (by omega) (by omega)
        rw [ite2_false, wrapA_i64 (x := lo) (by omega) (by omega), f3, f1, f4, f2]
        exact ⟨_, _, _, _, by rw [ho, hM, hS]; rfl⟩
      · obtain ⟨f3, f4⟩ := fok_fl (0 - lo) (by omega) (by omega)
        rw [ite2_true, wrapA_i64 (x := lo) (by omega) (by omega), show Int.sub 0 lo = 0 - lo from rfl, ← wrapA_eq, wrapA_i64 (x := 0 - lo) (by omega) (by omega), f3, f1, f4, f2, show 0 - lo = -lo by omega]
        exact ⟨_, _, _, _, by rw [ho, hM, hS]; rfl⟩
theorem s33_h : ∀ x ∈ s33, Holds Tryd.prog x := by
  intro x h
  simp only [List.mem_cons, List.not_mem_nil, or_false] at h
  rcases h with rfl | rfl | rfl
  · exact div0_h
  · exact point_h
  · exact of_h
theorem whole_h : Holds Tryd.prog (40, wholeS) := holds_of_K masks (s := s33) s33_h none Tryd.func40 (by kernel_rfl) (c := code 40) (by kernel_rfl) (rs := res 40) (by kernel_rfl) (by kernel_rfl) fun args v hG => by
  obtain ⟨⟨⟨hi, lo⟩, x, below⟩, h1, h⟩ := ob_some hG
  obtain ⟨hp, rfl⟩ := Prod.mk.inj (Option.some.inj h)
  rw [w4_some h1]
  simp only [Bool.and_eq_true, eqI_dec, leI_dec, decide_eq_true_eq] at hp
  obtain ⟨rfl, hl, h0, hs⟩ := hp
  have hl' := in62_iff.1 hl
  have hs' := in12_iff.1 hs
  have h1 := hl'.2
  have h3 := hs'.1
  have h7 := hs'.2
  refine ⟨rfl, rfl, rfl, 14, (K33 0 lo x below _ _).trans ?_⟩
  obtain ⟨d1, d2, d3⟩ := dv0 lo h0 h1
  have hsp := tsplit lo 10 (by omega)
  simp only
  by_cases hx : 0 < x
  · rw [ite2_pos (show gtI x 0 = true from by rw [gtI_dec]; simpa using hx), ite2_pos d1]
    by_cases hm : lo.tmod 10 = 0
    · rw [ite2_pos (by rw [d2, eqI_dec]; simpa using hm), d3, show wrapA .u64 (Int.tdiv 0 10) = 0 from rfl, show Int.sub x 1 = x - 1 from rfl, wrapA_i64 (show _ ≤ x - 1 by omega) (show x - 1 < _ by omega)]
      obtain ⟨r1, r2, r3⟩ := res_ten (below := below) hx h7 hm
      obtain ⟨a, b, c, tp, hl⟩ := whole_loop below 13 (lo.tdiv 10) (x - 1) 14 (by omega) (by omega) (by omega) (by omega) (by omega) (by omega)
      rw [show masks.l = fis from rfl, hl, ob_of]
      refine (C33_0_0 _ _ _ _ _ _ _ _ _ _).trans ?_
      unfold decRes
      rw [r1, r2, r3]; rfl
    · rw [ite2_neg (by rw [d2, eqI_dec]; simpa using hm)]
      have hst : x = 0 ∨ lo.tmod 10 ≠ 0 := .inr hm
      rw [ite2_neg (show gtI 0 0 = false from by rw [gtI_dec]; rfl)]
      by_cases hb : 1000000000000000 ≤ lo
      · have ho : Sp.rOk (Sp.sg below lo) x = false := whole_no hst h0 h3 (.inl hb)
        rw [ite2_pos (show geI lo 1000000000000000 = true from by rw [geI_dec]; simpa using hb)]
        rw [decRes_no ho]; rfl
      rw [ite2_neg (show geI lo 1000000000000000 = false from by rw [geI_dec]; simpa using hb)]
      by_cases h6 : 6 < x
      · have ho : Sp.rOk (Sp.sg below lo) x = false := whole_no hst h0 h3 (.inr h6)
        rw [ite2_pos (show gtI x 6 = true from by rw [gtI_dec]; simpa using h6)]
        rw [decRes_no ho]; rfl
      rw [ite2_neg (show gtI x 6 = false from by rw [gtI_dec]; simpa using h6)]
      obtain ⟨ho, hM, hS⟩ := whole_yes (below := below) hst h0 h3 (by omega) (by omega)
      obtain ⟨f1, f2⟩ := fok_fl x (by omega) (by omega)
      cases below
      · obtain ⟨f3, f4⟩ := fok_fl lo (by omega) (by omega)
        rw [ite2_false, wrapA_i64 (x := lo) (by omega) (by omega), f3, f1, f4, f2]
        unfold decRes; rw [ho, hM, hS]; rfl
      · obtain ⟨f3, f4⟩ := fok_fl (0 - lo) (by omega) (by omega)
        rw [ite2_true, wrapA_i64 (x := lo) (by omega) (by omega), show Int.sub 0 lo = 0 - lo from rfl, ← wrapA_eq, wrapA_i64 (x := 0 - lo) (by omega) (by omega), f3, f1, f4, f2, show 0 - lo = -lo by omega]
        unfold decRes; rw [ho, hM, hS]; rfl
  · rw [ite2_neg (show gtI x 0 = false from by rw [gtI_dec]; simpa using hx)]
    have hst : x = 0 ∨ lo.tmod 10 ≠ 0 := .inl (by omega)
    rw [ite2_neg (show gtI 0 0 = false from by rw [gtI_dec]; rfl)]
    by_cases hb : 1000000000000000 ≤ lo
    · have ho : Sp.rOk (Sp.sg below lo) x = false := whole_no hst h0 h3 (.inl hb)
      rw [ite2_pos (show geI lo 1000000000000000 = true from by rw [geI_dec]; simpa using hb)]
      rw [decRes_no ho]; rfl
    rw [ite2_neg (show geI lo 1000000000000000 = false from by rw [geI_dec]; simpa using hb)]
    by_cases h6 : 6 < x
    · have ho : Sp.rOk (Sp.sg below lo) x = false := whole_no hst h0 h3 (.inr h6)
      rw [ite2_pos (show gtI x 6 = true from by rw [gtI_dec]; simpa using h6)]
      rw [decRes_no ho]; rfl
    rw [ite2_neg (show gtI x 6 = false from by rw [gtI_dec]; simpa using h6)]
    obtain ⟨ho, hM, hS⟩ := whole_yes (below := below) hst h0 h3 (by omega) (by omega)
    obtain ⟨f1, f2⟩ := fok_fl x (by omega) (by omega)
    cases below
    · obtain ⟨f3, f4⟩ := fok_fl lo (by omega) (by omega)
      rw [ite2_false, wrapA_i64 (x := lo) (by omega) (by omega), f3, f1, f4, f2]
      unfold decRes; rw [ho, hM, hS]; rfl
    · obtain ⟨f3, f4⟩ := fok_fl (0 - lo) (by omega) (by omega)
      rw [ite2_true, wrapA_i64 (x := lo) (by omega) (by omega), show Int.sub 0 lo = 0 - lo from rfl, ← wrapA_eq, wrapA_i64 (x := 0 - lo) (by omega) (by omega), f3, f1, f4, f2, show 0 - lo = -lo by omega]
      unfold decRes; rw [ho, hM, hS]; rfl


end
end Go.Proofs.YtnoppcnfdnkhbaaDoor
