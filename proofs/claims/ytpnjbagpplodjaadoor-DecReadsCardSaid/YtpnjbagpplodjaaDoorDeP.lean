/- A wide number by a number: the program's. -/
import Derived.Test.YtpnjbagpplodjaaDoorDeO
namespace Go.Proofs.YtpnjbagpplodjaaDoor
open Go.RowKit Go.Am
set_option maxRecDepth 1000000
set_option linter.unusedSimpArgs false
set_option linter.unusedVariables false
noncomputable section
/-! ### a wide number by a number: the program's -/
noncomputable abbrev s48 : List KSpec := [(62, lzS)]
theorem loop17 {x0 x1 x2 s x10 x12 Y yn1 yn0 u a Q : Int} (h : Kn Y yn1 yn0 u a Q) : ∀ (n : Nat) (q r : Int) (k : Nat), 0 ≤ q → q < 17179869184 → 0 ≤ r → r < 4294967296 → q * yn1 + r = u → Q ≤ q → 4294967296 ≤ r + n * 2147483648 → n < k →
    ∃ r' tp, (ltow Tryd.prog (fiAt fis 48) (kcall s48) none k).lp (codeAt (code 48) [1, 1, 1, 1, 1, 1, 1, 1, 1, 1, 1, 1, 1, 1, 0, 0, 0]) (st48_17_0 x0 x1 x2 q u yn1 a Y s r x10 yn0 x12) = some (.exit 0, ex48_0 x0 x1 x2 Q u yn1 a Y s r' x10 yn0 x12 tp) := by
  intro n
  induction n with
  | zero => intro q r k _ _ _ h1 _ _ h2 _; omega
  | succ n ih =>
    intro q r k q0 q1 r0 r1 hr hQ hm hk
    obtain ⟨k, rfl⟩ : ∃ j, k = j + 1 := ⟨k - 1, by omega⟩
    have hy1 := h.y1
    have hy2 := h.y2
    have ha0 := h.a0
    have ha1 := h.a1
    have hlt := h.lt
    have hp := h.pos
    rw [← ob_id ((ltow ..).lp _ _), lp_round, R48_17_0]
    have e1 : wrapA IntKind.u64 (Int.add r yn1) = r + yn1 := wrapA_u64 (show 0 ≤ r + yn1 by omega) (show r + yn1 < _ by omega)
    have tail : ∀ tp, Q < q → ∃ r' tp', ite2 (geI (wrapA IntKind.u64 (Int.add r yn1)) 4294967296) (some (.exit 0, ex48_0 x0 x1 x2 (wrapA IntKind.u64 (Int.sub q 1)) u yn1 a Y s (wrapA IntKind.u64 (Int.add r yn1)) x10 yn0 x12 tp)) (ob ((ltow Tryd.prog (fiAt fis 48) (kcall s48) none k).lp (codeAt (code 48) [1, 1, 1, 1, 1, 1, 1, 1, 1, 1, 1, 1, 1, 1, 0, 0, 0]) (st48_17_0 x0 x1 x2 (wrapA IntKind.u64 (Int.sub q 1)) u yn1 a Y s (wrapA IntKind.u64 (Int.add r yn1)) x10 yn0 x12)) some) = some (.exit 0, ex48_0 x0 x1 x2 Q u yn1 a Y s r' x10 yn0 x12 tp') := by
      intro tp hq
      have e2 : wrapA IntKind.u64 (Int.sub q 1) = q - 1 := wrapA_u64 (show 0 ≤ q - 1 by omega) (show q - 1 < _ by omega)
      have hr2 : (q - 1) * yn1 + (r + yn1) = u := by rw [Int.sub_mul, Int.one_mul]; omega
      rw [e1, e2]
      by_cases hg : 4294967296 ≤ r + yn1
      · rw [ite2_pos (by rw [geI_dec]; exact decide_eq_true hg)]
        have := h.brk hr2 (by omega) hg
        obtain rfl : Q = q - 1 := by omega
        exact ⟨_, _, rfl⟩
      · rw [ite2_neg (by rw [geI_dec]; exact decide_eq_false hg), ob_id]
        exact ih (q - 1) (r + yn1) k (by omega) (by omega) (by omega) (by omega) hr2 (by omega) (by rw [Int.natCast_succ] at hm; omega) (by omega)
    by_cases hB : 4294967296 ≤ q
    · rw [ite2_pos (by rw [geI_dec]; exact decide_eq_true hB)]
      exact tail _ (by omega)
    · rw [ite2_neg (by rw [geI_dec]; exact decide_eq_false hB)]
      obtain ⟨s1, s2⟩ := h.small q0 (by omega)
      have e3 : wrapA IntKind.u64 (Int.mul q yn0) = q * yn0 := wrapA_u64 s1 s2
      have e4 : wrapA IntKind.u64 (Int.mul 4294967296 r) = 4294967296 * r := wrapA_u64 (show 0 ≤ 4294967296 * r by omega) (show 4294967296 * r < _ by omega)
      have e5 : wrapA IntKind.u64 (Int.add (4294967296 * r) a) = 4294967296 * r + a := wrapA_u64 (show 0 ≤ 4294967296 * r + a by omega) (show 4294967296 * r + a < _ by omega)
      rw [e3, e4, e5]
      by_cases hc : 4294967296 * r + a < q * yn0
      · rw [ite2_pos (by rw [gtI_dec]; exact decide_eq_true hc)]
        exact tail _ (h.more hr hc)
      · rw [ite2_neg (by rw [gtI_dec]; exact decide_eq_false hc)]
        have := h.done hr (by omega)
        obtain rfl : Q = q := by omega
        exact ⟨_, _, rfl⟩
theorem loop24 {x0 x1 x2 x3 x4 x7 s x11 Y yn1 yn0 u a Q : Int} (h : Kn Y yn1 yn0 u a Q) : ∀ (n : Nat) (q r : Int) (k : Nat), 0 ≤ q → q < 17179869184 → 0 ≤ r → r < 4294967296 → q * yn1 + r = u → Q ≤ q → 4294967296 ≤ r + n * 2147483648 → n < k →
    ∃ r' tp, (ltow Tryd.prog (fiAt fis 48) (kcall s48) none k).lp (codeAt (code 48) [1, 1, 1, 1, 1, 1, 1, 1, 1, 1, 1, 1, 1, 1, 1, 1, 1, 1, 0, 0, 0]) (st48_24_0 x0 x1 x2 x3 x4 yn1 u x7 Y s r x11 yn0 q a) = some (.exit 2, ex48_1 x0 x1 x2 x3 x4 yn1 u x7 Y s r' x11 yn0 Q a tp) := by
  intro n
  induction n with
  | zero => intro q r k _ _ _ h1 _ _ h2 _; omega
  | succ n ih =>
    intro q r k q0 q1 r0 r1 hr hQ hm hk
    obtain ⟨k, rfl⟩ : ∃ j, k = j + 1 := ⟨k - 1, by omega⟩
    have hy1 := h.y1
    have hy2 := h.y2
    have ha0 := h.a0
    have ha1 := h.a1
    have hlt := h.lt
    have hp := h.pos
    rw [← ob_id ((ltow ..).lp _ _), lp_round, R48_24_0]
    have e1 : wrapA IntKind.u64 (Int.add r yn1) = r + yn1 := wrapA_u64 (show 0 ≤ r + yn1 by omega) (show r + yn1 < _ by omega)
    have tail : ∀ tp, Q < q → ∃ r' tp', ite2 (geI (wrapA IntKind.u64 (Int.add r yn1)) 4294967296) (some (.exit 2, ex48_1 x0 x1 x2 x3 x4 yn1 u x7 Y s (wrapA IntKind.u64 (Int.add r yn1)) x11 yn0 (wrapA IntKind.u64 (Int.sub q 1)) a tp)) (ob ((ltow Tryd.prog (fiAt fis 48) (kcall s48) none k).lp (codeAt (code 48) [1, 1, 1, 1, 1, 1, 1, 1, 1, 1, 1, 1, 1, 1, 1, 1, 1, 1, 0, 0, 0]) (st48_24_0 x0 x1 x2 x3 x4 yn1 u x7 Y s (wrapA IntKind.u64 (Int.add r yn1)) x11 yn0 (wrapA IntKind.u64 (Int.sub q 1)) a)) some) = some (.exit 2, ex48_1 x0 x1 x2 x3 x4 yn1 u x7 Y s r' x11 yn0 Q a tp') := by
      intro tp hq
      have e2 : wrapA IntKind.u64 (Int.sub q 1) = q - 1 := wrapA_u64 (show 0 ≤ q - 1 by omega) (show q - 1 < _ by omega)
      have hr2 : (q - 1) * yn1 + (r + yn1) = u := by rw [Int.sub_mul, Int.one_mul]; omega
      rw [e1, e2]
      by_cases hg : 4294967296 ≤ r + yn1
      · rw [ite2_pos (by rw [geI_dec]; exact decide_eq_true hg)]
        have := h.brk hr2 (by omega) hg
        obtain rfl : Q = q - 1 := by omega
        exact ⟨_, _, rfl⟩
      · rw [ite2_neg (by rw [geI_dec]; exact decide_eq_false hg), ob_id]
        exact ih (q - 1) (r + yn1) k (by omega) (by omega) (by omega) (by omega) hr2 (by omega) (by rw [Int.natCast_succ] at hm; omega) (by omega)
    by_cases hB : 4294967296 ≤ q
    · rw [ite2_pos (by rw [geI_dec]; exact decide_eq_true hB)]
      exact tail _ (by omega)
    · rw [ite2_neg (by rw [geI_dec]; exact decide_eq_false hB)]
      obtain ⟨s1, s2⟩ := h.small q0 (by omega)
      have e3 : wrapA IntKind.u64 (Int.mul q yn0) = q * yn0 := wrapA_u64 s1 s2
      have e4 : wrapA IntKind.u64 (Int.mul 4294967296 r) = 4294967296 * r := wrapA_u64 (show 0 ≤ 4294967296 * r by omega) (show 4294967296 * r < _ by omega)
      have e5 : wrapA IntKind.u64 (Int.add (4294967296 * r) a) = 4294967296 * r + a := wrapA_u64 (show 0 ≤ 4294967296 * r + a by omega) (show 4294967296 * r + a < _ by omega)
      rw [e3, e4, e5]
      by_cases hc : 4294967296 * r + a < q * yn0
      · rw [ite2_pos (by rw [gtI_dec]; exact decide_eq_true hc)]
        exact tail _ (h.more hr hc)
      · rw [ite2_neg (by rw [gtI_dec]; exact decide_eq_false hc)]
        have := h.done hr (by omega)
        obtain rfl : Q = q := by omega
        exact ⟨_, _, rfl⟩
theorem u1_some {l : List Value} {p : Int} (h : u1 l = some p) : l = [.int .u64 p] := by
  unfold u1 at h; split at h
  · obtain rfl := Option.some.inj h; rfl
  · cases h
theorem u2_some {l : List Value} {p : Int × Int} (h : u2 l = some p) : l = [.int .u64 p.1, .int .u64 p.2] := by
  unfold u2 at h; split at h
  · obtain rfl := Option.some.inj h; rfl
  · cases h
theorem lz_h : Holds Tryd.prog (62, lzS) := holds_of_says Tryd.func62 (by kernel_rfl) (by kernel_rfl) fun args v hG => by
  obtain ⟨n, h1, h⟩ := ob_some hG
  obtain ⟨hp, rfl⟩ := Prod.mk.inj (Option.some.inj h)
  rw [u1_some h1]
  simp only [Sp.lzOk, decide_eq_true_eq] at hp
  exact ⟨rfl, rfl, fun w => (Tryd.bits_LeadingZeros64 n w (by omega) (by omega)).mono fun e w' ⟨he, hw⟩ => ⟨he, by rw [hw]; exact Below.refl _ _⟩⟩
theorem mul64_h : Holds Tryd.prog (44, mul64S) := holds_of_says Tryd.func44 (by kernel_rfl) (by kernel_rfl) fun args v hG => by
  obtain ⟨⟨a, b⟩, h1, h⟩ := ob_some hG
  obtain ⟨hp, rfl⟩ := Prod.mk.inj (Option.some.inj h)
  rw [u2_some h1]
  simp only [Bool.and_eq_true, Sp.u64, decide_eq_true_eq] at hp
  obtain ⟨⟨a0, a1⟩, b0, b1⟩ := hp
  obtain ⟨a, rfl⟩ : ∃ n : Nat, a = n := ⟨a.toNat, by omega⟩
  obtain ⟨b, rfl⟩ : ∃ n : Nat, b = n := ⟨b.toNat, by omega⟩
  exact ⟨rfl, rfl, fun w => (Tryd.bits_Mul64 a b (by omega) (by omega) w).mono fun e w' ⟨he, hw⟩ => ⟨he, by rw [hw]; exact Below.refl _ _⟩⟩
theorem wide_plain {hi lo y P Q : Int} (hPQ : P * Q = 18446744073709551616) (hP : 0 < P) (hQ : 0 < Q) (h0 : 0 ≤ hi) (h1 : hi < y) (l0 : 0 ≤ lo) (l1 : lo < 18446744073709551616) :
    0 ≤ lo / Q ∧ lo / Q < P ∧ 0 ≤ hi * P ∧ hi * P + lo / Q < y * P ∧ (hi * P + lo / Q) * 18446744073709551616 + (lo * P) % 18446744073709551616 = (hi * 18446744073709551616 + lo) * P := by
  have a0 : 0 ≤ lo / Q := Int.ediv_nonneg l0 (by omega)
  have a1 : lo / Q < P := Int.ediv_lt_of_lt_mul hQ (by rw [hPQ]; exact l1)
  have a2 : 0 ≤ hi * P := Int.mul_nonneg h0 (by omega)
  have a3 : (hi + 1) * P ≤ y * P := Int.mul_le_mul_of_nonneg_right (by omega) (by omega)
  rw [Int.add_mul, Int.one_mul] at a3
  have hd := Int.mul_ediv_add_emod lo Q
  have t0 := Int.emod_nonneg lo (show Q ≠ 0 by omega)
  have t1 := Int.emod_lt_of_pos lo hQ
  have e : lo * P = lo / Q * 18446744073709551616 + lo % Q * P := by
    conv => lhs; rw [← hd]
    rw [Int.add_mul, Int.mul_comm Q, Int.mul_assoc, Int.mul_comm Q, hPQ]
  have b0 : 0 ≤ lo % Q * P := Int.mul_nonneg t0 (by omega)
  have b1 : (lo % Q + 1) * P ≤ Q * P := Int.mul_le_mul_of_nonneg_right (by omega) (by omega)
  rw [Int.add_mul, Int.one_mul, Int.mul_comm Q, hPQ] at b1
  have c : (hi * 18446744073709551616 + lo) * P = hi * P * 18446744073709551616 + lo * P := by
    rw [Int.add_mul, Int.mul_assoc, Int.mul_comm 18446744073709551616 P, ← Int.mul_assoc]
  refine ⟨a0, a1, a2, by omega, ?_⟩
  rw [c, Int.add_mul]
  omega
theorem wide_end {N y P Y Q1 Q2 u V un10 un1 un0 : Int} (hP : 0 < P) (hY : Y = y * P) (hy : 0 < y) (hN : u * 18446744073709551616 + un10 = N * P) (hu : un10 = un1 * 4294967296 + un0)
    (hV : u * 4294967296 + un1 - Q1 * Y = V) (hW0 : 0 ≤ V * 4294967296 + un0 - Q2 * Y) (hW1 : V * 4294967296 + un0 - Q2 * Y < Y) : N / y = Q1 * 4294967296 + Q2 ∧ N % y = (V * 4294967296 + un0 - Q2 * Y) / P := by
  have e : V * 4294967296 + un0 - Q2 * Y = (N - (Q1 * 4294967296 + Q2) * y) * P := by
    rw [Int.sub_mul, ← hN, hu, Int.mul_assoc, ← hY, Int.add_mul, Int.mul_assoc Q1, Int.mul_comm 4294967296 Y, ← Int.mul_assoc]
    omega
  rw [e] at hW0 hW1 ⊢
  rw [hY] at hW1
  have w0 : 0 ≤ N - (Q1 * 4294967296 + Q2) * y := Int.not_lt.1 fun h => by
    have := Int.mul_neg_of_neg_of_pos h hP
    omega
  have w1 : N - (Q1 * 4294967296 + Q2) * y < y := Int.lt_of_mul_lt_mul_right hW1 (by omega)
  rw [Int.mul_ediv_cancel _ (by omega)]
  have hd : N / y = Q1 * 4294967296 + Q2 := by
    rw [Int.ediv_eq_iff_of_pos hy] 
    exact ⟨by omega, by omega⟩
  refine ⟨hd, ?_⟩
  rw [Int.emod_def, hd, Int.mul_comm y]
theorem Kn.first {Y yn1 yn0 u a Q : Int} (h : Kn Y yn1 yn0 u a Q) (hY : Y < 18446744073709551616) : 0 ≤ u / yn1 ∧ u / yn1 < 17179869184 ∧ 0 ≤ u - u / yn1 * yn1 ∧ u - u / yn1 * yn1 < 4294967296 ∧ u / yn1 * yn1 ≤ u ∧ Q ≤ u / yn1 := by
  obtain ⟨hy, y1, y2, y3, y4, u0, u1, a0, a1, hq⟩ := h
  have h := (⟨hy, y1, y2, y3, y4, u0, u1, a0, a1, hq⟩ : Kn Y yn1 yn0 u a Q)
  have d0 : 0 ≤ u / yn1 := Int.ediv_nonneg u0 (by omega)
  have d1 := Int.mul_ediv_add_emod u yn1
  have d2 := Int.emod_nonneg u (show yn1 ≠ 0 by omega)
  have d3 := Int.emod_lt_of_pos u (show 0 < yn1 by omega)
  rw [Int.mul_comm] at d1
  refine ⟨d0, ?_, by omega, by omega, by omega, ?_⟩
  · refine Int.not_le.1 fun hle => ?_
    have := Int.mul_le_mul hle y1 (by omega) d0
    omega
  · rw [Int.le_ediv_iff_mul_le (by omega)]
    have := (h.le Q).1 (Int.le_refl _)
    rw [h.mul] at this
    have h2 := Int.mul_nonneg h.pos y3
    omega
theorem div_h : Holds Tryd.prog (48, divS) := holds_of_K masks (s := s48) (fun x h => by rw [List.mem_singleton.1 h]; exact lz_h) none Tryd.func48 (by kernel_rfl) (c := code 48) (by kernel_rfl) (rs := res 48) (by kernel_rfl) (by kernel_rfl) fun args v hG => by
  obtain ⟨⟨hi, lo, y⟩, h1, h⟩ := ob_some hG
  obtain ⟨hp, rfl⟩ := Prod.mk.inj (Option.some.inj h)
  rw [u3_some h1]
  simp only [Sp.dgOk, decide_eq_true_eq] at hp
  obtain ⟨i0, i1, y1, l0, l1⟩ := hp
  refine ⟨rfl, rfl, rfl, 8, (K48g hi lo y _ _).trans ?_⟩
  rw [ite2_neg (show eqI y 0 = false from by rw [eqI_dec]; exact decide_eq_false (by omega)), ite2_neg (show leI y hi = false from by rw [leI_dec]; exact decide_eq_false (by omega))]
  show _ = some (Value.tuple ⟨[.int .u64 ((hi * 18446744073709551616 + lo) / y), .int .u64 ((hi * 18446744073709551616 + lo) % y)]⟩)
  by_cases hz : hi = 0
  · subst hz
    rw [ite2_pos (eqI_self 0)]
    have q1 : lo.tdiv y = lo / y := Int.tdiv_eq_ediv_of_nonneg l0
    have q2 : lo.tmod y = lo % y := Int.tmod_eq_emod_of_nonneg l0
    have q3 : 0 ≤ lo / y := Int.ediv_nonneg l0 (by omega)
    have q4 : lo / y ≤ lo := Int.ediv_le_self y l0
    rw [q1, q2, wrapA_u64 q3 (by omega), show 0 * 18446744073709551616 + lo = lo by omega, show eqI y 0 = false from by rw [eqI_dec]; exact decide_eq_false (by omega)]
    rfl
  rw [ite2_neg (show eqI hi 0 = false from by rw [eqI_dec]; exact decide_eq_false hz), ite2_pos (show Sp.lzOk y = true from decide_eq_true ⟨by omega, y1⟩)]
  obtain ⟨S, T, P, Q, eS, hST, hS, eP, eQ, eP2, hPQ, hY1, hY2, hP, hQ⟩ := lz_facts y (by omega) y1
  have w1 : wrapA IntKind.u64 (S : Int) = S := wrapA_u64 (by omega) (by omega)
  have w2 : wrapA IntKind.u64 (Int.sub 64 (S : Int)) = T := by
    have : Int.sub 64 (S : Int) = T := by show 64 - (S : Int) = T; omega
    rw [this]; exact wrapA_u64 (by omega) (by omega)
  rw [eS, w1, w2, ob_nat (Int.natCast_nonneg S), ob_nat (Int.natCast_nonneg S), ob_nat (Int.natCast_nonneg T), ob_nat (Int.natCast_nonneg S), Int.toNat_natCast, Int.toNat_natCast, ← eP, ← eQ]
  obtain ⟨b0, b1, b2, b3, b4⟩ := wide_plain hPQ hP hQ i0 i1 l0 l1
  obtain ⟨Y, hY⟩ : ∃ Y, y * P = Y := ⟨_, rfl⟩
  rw [hY] at hY1 hY2 b3
  have e1 : wrapA IntKind.u64 (Int.mul y P) = Y := by rw [show Int.mul y P = Y from hY]; exact wrapA_u64 (by omega) hY2
  have e2 : wrapA IntKind.u64 (Int.mul hi P) = hi * P := wrapA_u64 b2 (show hi * P < _ by omega)
  have e3 : Int.fdiv lo Q = lo / Q := Int.fdiv_eq_ediv_of_nonneg _ (by omega)
  have e4 : orN .u64 (hi * P) (lo / Q) = (hi * P + lo / Q).toNat := by
    rw [eP2]; rw [eP2] at b1 b3; exact orN_add S hi (lo / Q) i0 b0 b1 hS (by omega)
  obtain ⟨u, hu⟩ : ∃ u, hi * P + lo / Q = u := ⟨_, rfl⟩
  rw [hu] at b3 b4 e4
  have u0 : 0 ≤ u := by omega
  have e5 : Int.ofNat u.toNat = u := Int.toNat_of_nonneg u0
  have e6 : ∀ z, ite2 (Nat.ble (Nat.succ u.toNat) 18446744073709551616) u z = u := fun z => by
    have := nat_wrap (n := u.toNat) (by omega) z
    rwa [e5] at this
  obtain ⟨t, ht⟩ : ∃ t, (lo * P) % 18446744073709551616 = t := ⟨_, rfl⟩
  have t0 : 0 ≤ t := by omega
  have t1 : t < 18446744073709551616 := by omega
  have e7 : wrapA IntKind.u64 (Int.mul lo P) = t := by rw [wrapA_u64']; exact ht
  have e8 : Int.fdiv Y 4294967296 = Y / 4294967296 := Int.fdiv_eq_ediv_of_nonneg _ (by omega)
  have e9 : Int.fdiv t 4294967296 = t / 4294967296 := Int.fdiv_eq_ediv_of_nonneg _ (by omega)
  have m1 : andN .u64 Y 4294967295 = (Y % 4294967296).toNat := andN_mask Y (by omega) hY2
  have m2 : andN .u64 t 4294967295 = (t % 4294967296).toNat := andN_mask t t0 t1
  have m3 : Int.ofNat (Y % 4294967296).toNat = Y % 4294967296 := Int.toNat_of_nonneg (by omega)
  have m4 : Int.ofNat (t % 4294967296).toNat = t % 4294967296 := Int.toNat_of_nonneg (by omega)
  have m5 : ∀ z, ite2 (Nat.ble (Nat.succ (Y % 4294967296).toNat) 18446744073709551616) (Y % 4294967296) z = Y % 4294967296 := fun z => by
    have := nat_wrap (n := (Y % 4294967296).toNat) (by omega) z
    rwa [m3] at this
  have m6 : ∀ z, ite2 (Nat.ble (Nat.succ (t % 4294967296).toNat) 18446744073709551616) (t % 4294967296) z = t % 4294967296 := fun z => by
    have := nat_wrap (n := (t % 4294967296).toNat) (by omega) z
    rwa [m4] at this
  rw [e1, e2, e3, e4, e5, e7, e8, e9, m1, m2, m3, m4, m5, m6]
  simp only [e6]
  have hK : Kn Y (Y / 4294967296) (Y % 4294967296) u (t / 4294967296) ((u * 4294967296 + t / 4294967296) / Y) := ⟨by omega, by omega, by omega, by omega, by omega, u0, b3, by omega, by omega, rfl⟩
  obtain ⟨f0, f1, f2, f3, f4, f5⟩ := hK.first hY2
  have g1 : Int.tdiv u (Y / 4294967296) = u / (Y / 4294967296) := Int.tdiv_eq_ediv_of_nonneg u0
  have g2 : wrapA IntKind.u64 (u / (Y / 4294967296)) = u / (Y / 4294967296) := wrapA_u64 f0 (by omega)
  have g3 : wrapA IntKind.u64 (Int.mul (u / (Y / 4294967296)) (Y / 4294967296)) = u / (Y / 4294967296) * (Y / 4294967296) := wrapA_u64 (Int.mul_nonneg f0 (by omega)) (show u / (Y / 4294967296) * (Y / 4294967296) < _ by omega)
  have g4 : wrapA IntKind.u64 (Int.sub u (u / (Y / 4294967296) * (Y / 4294967296))) = u - u / (Y / 4294967296) * (Y / 4294967296) := wrapA_u64 f2 (show u - u / (Y / 4294967296) * (Y / 4294967296) < _ by omega)
  rw [g1, g2, g3, g4, ite2_pos (show ite2 (eqI (Y / 4294967296) 0) false true = true from by rw [ite2_not, eqI_dec, decide_eq_false (by omega)]; rfl)]
  obtain ⟨r1, tp1, hl1⟩ := loop17 (x0 := hi) (x1 := lo) (x2 := 0) (s := (S : Int)) (x10 := 0) (x12 := t % 4294967296) hK 2 _ _ 8 f0 f1 f2 f3 (by omega) f5 (by omega) (by omega)
  rw [show masks.l = fis from rfl, hl1]
  obtain ⟨Q1, hQ1⟩ : ∃ Q1, (u * 4294967296 + t / 4294967296) / Y = Q1 := ⟨_, rfl⟩
  rw [hQ1] at hK ⊢
  refine (C48_0_0 _ _ _ _ _ _ _ _ _ _ _ _ _ _ _ _).trans ?_
  obtain ⟨V, hV⟩ : ∃ V, u * 4294967296 + t / 4294967296 - Q1 * Y = V := ⟨_, rfl⟩
  have v0 : 0 ≤ V := by rw [← hV, hK.rest]; exact Int.emod_nonneg _ (by omega)
  have v1 : V < Y := by rw [← hV, hK.rest]; exact Int.emod_lt_of_pos _ (by omega)
  have k1 : wrapA IntKind.u64 (Int.sub (wrapA IntKind.u64 (Int.add (wrapA IntKind.u64 (Int.mul u 4294967296)) (t / 4294967296))) (wrapA IntKind.u64 (Int.mul Q1 Y))) = V := by
    simp only [wrapA_u64']
    show ((u * 4294967296 % 18446744073709551616 + t / 4294967296) % 18446744073709551616 - (Q1 * Y) % 18446744073709551616) % 18446744073709551616 = V
    omega
  have hK2 : Kn Y (Y / 4294967296) (Y % 4294967296) V (t % 4294967296) ((V * 4294967296 + t % 4294967296) / Y) := ⟨by omega, by omega, by omega, by omega, by omega, v0, v1, by omega, by omega, rfl⟩
  obtain ⟨j0, j1, j2, j3, j4, j5⟩ := hK2.first hY2
  have n1 : Int.tdiv V (Y / 4294967296) = V / (Y / 4294967296) := Int.tdiv_eq_ediv_of_nonneg v0
  have n2 : wrapA IntKind.u64 (V / (Y / 4294967296)) = V / (Y / 4294967296) := wrapA_u64 j0 (by omega)
  have n3 : wrapA IntKind.u64 (Int.mul (V / (Y / 4294967296)) (Y / 4294967296)) = V / (Y / 4294967296) * (Y / 4294967296) := wrapA_u64 (Int.mul_nonneg j0 (by omega)) (show V / (Y / 4294967296) * (Y / 4294967296) < _ by omega)
  have n4 : wrapA IntKind.u64 (Int.sub V (V / (Y / 4294967296) * (Y / 4294967296))) = V - V / (Y / 4294967296) * (Y / 4294967296) := wrapA_u64 j2 (show V - V / (Y / 4294967296) * (Y / 4294967296) < _ by omega)
  rw [k1, n1, n2, n3, n4, ite2_pos (show ite2 (eqI (Y / 4294967296) 0) false true = true from by rw [ite2_not, eqI_dec, decide_eq_false (by omega)]; rfl)]
  obtain ⟨r2, tp2, hl2⟩ := loop24 (x0 := hi) (x1 := lo) (x2 := 0) (x3 := Q1) (x4 := u) (x7 := t / 4294967296) (s := (S : Int)) (x11 := 0) hK2 2 _ _ 8 j0 j1 j2 j3 (by omega) j5 (by omega) (by omega)
  rw [hl2]
  obtain ⟨Q2, hQ2⟩ : ∃ Q2, (V * 4294967296 + t % 4294967296) / Y = Q2 := ⟨_, rfl⟩
  rw [hQ2] at hK2 ⊢
  refine (C48_1_0 _ _ _ _ _ _ _ _ _ _ _ _ _ _ _ _ _ _).trans ?_
  rw [ ob_nat (Int.natCast_nonneg S), Int.toNat_natCast, ← eP]
  have q0 := hK.pos
  have q1 := hK.lt
  have p0 := hK2.pos
  have p1 := hK2.lt
  have z0 : 0 ≤ V * 4294967296 + t % 4294967296 - Q2 * Y := by rw [hK2.rest]; exact Int.emod_nonneg _ (by omega)
  have z1 : V * 4294967296 + t % 4294967296 - Q2 * Y < Y := by rw [hK2.rest]; exact Int.emod_lt_of_pos _ (by omega)
  have k2 : wrapA IntKind.u64 (Int.sub (wrapA IntKind.u64 (Int.add (wrapA IntKind.u64 (Int.mul V 4294967296)) (t % 4294967296))) (wrapA IntKind.u64 (Int.mul Q2 Y))) = V * 4294967296 + t % 4294967296 - Q2 * Y := by
    simp only [wrapA_u64']
    show ((V * 4294967296 % 18446744073709551616 + t % 4294967296) % 18446744073709551616 - (Q2 * Y) % 18446744073709551616) % 18446744073709551616 = _
    omega
  have k3 : wrapA IntKind.u64 (Int.add (wrapA IntKind.u64 (Int.mul Q1 4294967296)) Q2) = Q1 * 4294967296 + Q2 := by
    simp only [wrapA_u64']
    show (Q1 * 4294967296 % 18446744073709551616 + Q2) % 18446744073709551616 = _
    omega
  rw [k2, k3, Int.fdiv_eq_ediv_of_nonneg _ (show 0 ≤ P by omega)]
  rw [ht] at b4
  obtain ⟨r1, r2⟩ := wide_end (N := hi * 18446744073709551616 + lo) (y := y) (P := P) (Y := Y) (Q1 := Q1) (Q2 := Q2) (u := u) (V := V) (un10 := t) (un1 := t / 4294967296) (un0 := t % 4294967296) hP hY.symm (by omega) b4 (by omega) hV z0 z1
  rw [r1, r2]

end
end Go.Proofs.YtpnjbagpplodjaaDoor
