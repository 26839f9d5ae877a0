/- Products by the reference: loops. -/
import Derived.Test.YtpnjbagpplodjaaDoorDeS
namespace Go.Proofs.YtpnjbagpplodjaaDoor
open Go.RowKit Go.Am
set_option maxRecDepth 1000000
set_option linter.unusedSimpArgs false
set_option linter.unusedVariables false
noncomputable section
theorem decRes_gd {a b x y : Int} (h : Sp.gd 13 a x = Sp.gd 13 b y) : decRes a x = decRes b y := by
  unfold decRes Sp.rM Sp.rS Sp.rOk; rw [h]
theorem lowD {D : Nat → Int} {k n : Nat} (h : 0 ≤ D k ∧ D k ≤ 9) (h2 : 0 ≤ Hn D (k + 1) n) : (Hn D k (n + 1)).tmod 10 = D k ∧ (Hn D k (n + 1)).tdiv 10 = Hn D (k + 1) n := by
  rw [Hn_succ, Int.tmod_eq_emod_of_nonneg (by omega), Int.tdiv_eq_ediv_of_nonneg (by omega)]
  omega
theorem carry0 {x0 : Int} {x1 : Int} {x2 : Int} {x3 : Int} {x4 : Int} {x5 : Bool} {x7 : Bool} {x8 : Int} {x9 : Int} {x10 : Int} {x11 : Int} {x13 : Int} {x14 : Int} {x15 : Int} {x16 : Int} : ∀ (r i : Nat) (D : Nat → Int) (t : Tr Value) (f : Nat), i + r = 39 → Ro 40 t D → (∀ j, j < i → 0 ≤ D j ∧ D j ≤ 9) → 0 ≤ D i → D i ≤ 40000 → (∀ j, i < j → j < 40 → 0 ≤ D j ∧ D j ≤ 20000) → r < f →
    ∃ i' t' D' tp, (ltow Tryd.prog (fiAt fis 19) (kcall s19) none f).lp (codeAt (code 19) [1, 1, 1, 1, 1, 1, 1, 0, 1, 0, 0]) (st19_19_0 x0 x1 x2 x3 x4 x5 ((i : Nat) : Int) x7 x8 x9 x10 x11 t x13 x14 x15 x16) = some (.exit 4, ex19_2 x0 x1 x2 x3 x4 x5 i' x7 x8 x9 x10 x11 t' x13 x14 x15 x16 tp) ∧
      Ro 40 t' D' ∧ Hn D' 0 40 = Hn D 0 40 ∧ (∀ j, j < 39 → 0 ≤ D' j ∧ D' j ≤ 9) ∧ 0 ≤ D' 39 := by
  intro r
  induction r with
  | zero =>
    intro i D t f hi hR h9 h0 h1 hb hf
    obtain ⟨f, rfl⟩ : ∃ g, f = g + 1 := ⟨f - 1, by omega⟩
    obtain rfl : i = 39 := by omega
    rw [← ob_id ((ltow ..).lp _ _), lp_round, R19_19_0, wsucc (by omega), ite2_neg (show ltI (((39 + 1 : Nat)) : Int) 40 = false from by rw [ltI_eq]; rfl)]
    exact ⟨_, _, D, _, rfl, hR, rfl, h9, h0⟩
  | succ r ih =>
    intro i D t f hi hR h9 h0 h1 hb hf
    obtain ⟨f, rfl⟩ : ∃ g, f = g + 1 := ⟨f - 1, by omega⟩
    have hi1 : i + 1 < 40 := by omega
    have hi0 : i < 40 := by omega
    have hn := hb (i + 1) (by omega) hi1
    have q1 : wrapA IntKind.i64 (Int.tdiv (D i) 10) = D i / 10 := by rw [Int.tdiv_eq_ediv_of_nonneg h0]; exact wrapA_i64 (by omega) (by omega)
    have q2 : wrapA IntKind.i64 (Int.add (D (i + 1)) (D i / 10)) = D (i + 1) + D i / 10 := wrapA_i64 (show _ ≤ D (i + 1) + D i / 10 by omega) (show D (i + 1) + D i / 10 < _ by omega)
    have q3 : Int.tmod (D i) 10 = D i % 10 := Int.tmod_eq_emod_of_nonneg h0
    have hS := hR.set (by omega) hi1 (D (i + 1) + D i / 10)
    have hSi := hS i hi0
    rw [upd_ne _ _ _ (show i ≠ i + 1 by omega)] at hSi
    rw [← ob_id ((ltow ..).lp _ _), lp_round, R19_19_0, wsucc (by omega), ite2_pos (show ltI (((i + 1 : Nat)) : Int) 40 = true from by rw [ltI_eq]; exact decide_eq_true (by omega)), lt_nat hi1, idx1, ite2_pos (ble_t' hi1), hR _ hi1, ob_of, lt_nat hi0, idx1, ite2_pos (ble_t' hi0), hR _ hi0, ob_of, q1, q2,
      lt_nat hi1, idx1, ite2_pos (show Nat.ble (Nat.add (i + 1) 1) 40 = true from ble_t' hi1), lt_nat hi0, idx1, ite2_pos (ble_t' hi0), hSi, ob_of, lt_nat hi0, idx1, ite2_pos (show Nat.ble (Nat.add i 1) 40 = true from ble_t' hi0), ob_id, q3]
    obtain ⟨i', t', D', tp, g1, g2, g3, g4, g5⟩ := ih (i + 1) (upd (upd D (i + 1) (D (i + 1) + D i / 10)) i (D i % 10)) _ f (by omega) (hS.set (by omega) hi0 (D i % 10)) (fun j hj => by
        by_cases e : j = i
        · subst e; rw [upd_same]; omega
        · rw [upd_ne _ _ _ e, upd_ne _ _ _ (show j ≠ i + 1 by omega)]; exact h9 j (by omega))
      (by rw [upd_ne _ _ _ (show i + 1 ≠ i by omega), upd_same]; omega) (by rw [upd_ne _ _ _ (show i + 1 ≠ i by omega), upd_same]; omega)
      (fun j h1 h2 => by rw [upd_ne _ _ _ (show j ≠ i by omega), upd_ne _ _ _ (show j ≠ i + 1 by omega)]; exact hb j (by omega) h2) (by omega)
    refine ⟨i', t', D', tp, g1, g2, ?_, g4, g5⟩
    rw [g3, Hn_upd _ i _ 40 0 (by omega) (by omega), Hn_upd _ (i + 1) _ 40 0 (by omega) (by omega), upd_ne _ _ _ (show i ≠ i + 1 by omega), Nat.sub_zero, Nat.sub_zero, Int.pow_succ, show D (i + 1) + D i / 10 - D (i + 1) = D i / 10 by omega, ← Int.mul_assoc, show D i % 10 - D i = -(10 * (D i / 10)) by omega, Int.neg_mul, Int.mul_assoc 10]
    omega
theorem low0 {x0 : Int} {x1 : Int} {x2 : Int} {x3 : Int} {x4 : Int} {x6 : Bool} {x7 : Int} {x8 : Bool} {x9 : Int} {x10 : Int} {x12 : Int} {x13 : Int} {x15 : Int} {x16 : Int} {x17 : Int} {x18 : Int} {D : Nat → Int} {t : Tr Value} (hR : Ro 40 t D) (h9 : ∀ j, j < 40 → 0 ≤ D j ∧ D j ≤ 9) : ∀ (n a : Nat) (sc : Int) (f : Nat), 0 ≤ sc → sc ≤ n → a + n ≤ 39 → n < f →
    ∃ (a' : Nat) (sc' : Int) (tp : _), (ltow Tryd.prog (fiAt fis 19) (kcall s19) none f).lp (codeAt (code 19) [1, 1, 1, 1, 1, 1, 1, 1, 1, 1, 0, 0, 0]) (st19_25_0 x0 x1 x2 x3 x4 ((a : Nat) : Int) x6 x7 x8 x9 x10 sc x12 x13 t x15 x16 x17 x18) = some (.exit 6, ex19_3 x0 x1 x2 x3 x4 ((a' : Nat) : Int) x6 x7 x8 x9 x10 sc' x12 x13 t x15 x16 x17 x18 tp) ∧
      Sp.gd n (Hn D a (40 - a)) sc = (Hn D a' (40 - a'), sc') ∧ a' ≤ a + n := by
  intro n
  induction n with
  | zero =>
    intro a sc f s0 s1 ha hf
    obtain ⟨f, rfl⟩ : ∃ g, f = g + 1 := ⟨f - 1, by omega⟩
    obtain rfl : sc = 0 := by omega
    rw [← ob_id ((ltow ..).lp _ _), lp_round, R19_25_0, ite2_neg (show gtI 0 0 = false from by rw [gtI_dec]; rfl)]
    exact ⟨a, 0, _, rfl, rfl, by omega⟩
  | succ n ih =>
    intro a sc f s0 s1 ha hf
    obtain ⟨f, rfl⟩ : ∃ g, f = g + 1 := ⟨f - 1, by omega⟩
    have ha0 : a < 40 := by omega
    have hl := lowD (D := D) (k := a) (n := 39 - a) (h9 a ha0) (Hn_nonneg D _ _ fun j _ h2 => (h9 j (by omega)).1)
    rw [show 39 - a + 1 = 40 - a by omega] at hl
    rw [← ob_id ((ltow ..).lp _ _), lp_round, R19_25_0]
    by_cases hs : 0 < sc
    · rw [ite2_pos (show gtI sc 0 = true from by rw [gtI_dec]; exact decide_eq_true hs), lt_nat ha0, idx1, ite2_pos (ble_t' ha0), hR _ ha0, ob_of]
      by_cases hz : D a = 0
      · rw [ite2_pos (show eqI (D a) 0 = true from by rw [eqI_dec]; exact decide_eq_true hz), wsucc (by omega), show wrapA IntKind.i64 (Int.sub sc 1) = sc - 1 from wrapA_i64 (show _ ≤ sc - 1 by omega) (show sc - 1 < _ by omega), ob_id]
        obtain ⟨a', sc', tp, g1, g2, g3⟩ := ih (a + 1) (sc - 1) f (by omega) (by omega) (by omega) (by omega)
        refine ⟨a', sc', tp, g1, ?_, by omega⟩
        unfold Sp.gd
        rw [if_pos ⟨hs, by rw [hl.1]; exact hz⟩, hl.2, ← g2, show 39 - a = 40 - (a + 1) by omega]
      · rw [ite2_neg (show eqI (D a) 0 = false from by rw [eqI_dec]; exact decide_eq_false hz)]
        refine ⟨a, sc, _, rfl, ?_, by omega⟩
        exact gd_stop _ _ _ (.inr (by rw [hl.1]; exact hz)) s0
    · obtain rfl : sc = 0 := by omega
      rw [ite2_neg (show gtI 0 0 = false from by rw [gtI_dec]; rfl)]
      exact ⟨a, 0, _, rfl, gd_stop _ _ _ (.inl rfl) (Int.le_refl _), by omega⟩
theorem digs0 {x0 : Int} {x1 : Int} {x2 : Int} {x3 : Int} {x4 : Int} {x6 : Bool} {x8 : Int} {x9 : Bool} {x11 : Int} {x12 : Int} {x13 : Int} {x14 : Int} {x15 : Int} {x17 : Int} {x18 : Int} {x19 : Int} {x20 : Int} {D : Nat → Int} {t : Tr Value} {a : Nat} (ha : a ≤ 20) (hR : Ro 40 t D) (h9 : ∀ j, j < 40 → 0 ≤ D j ∧ D j ≤ 9) : ∀ (r : Nat) (i m : Int) (f : Nat), i = (a : Int) + r - 1 → r ≤ 15 → 0 ≤ m → m < 10 ^ (15 - r) → r < f →
    ∃ i' tp, (ltow Tryd.prog (fiAt fis 19) (kcall s19) none f).lp (codeAt (code 19) [1, 1, 1, 1, 1, 1, 1, 1, 1, 1, 1, 1, 1, 1, 0, 1, 0, 0]) (st19_34_0 x0 x1 x2 x3 x4 ((a : Nat) : Int) x6 i x8 x9 m x11 x12 x13 x14 x15 t x17 x18 x19 x20) = some (.exit 8, ex19_5 x0 x1 x2 x3 x4 ((a : Nat) : Int) x6 i' x8 x9 (m * 10 ^ r + Hn D a r) x11 x12 x13 x14 x15 t x17 x18 x19 x20 tp) := by
  intro r
  induction r with
  | zero =>
    intro i m f hi hr m0 m1 hf
    obtain ⟨f, rfl⟩ : ∃ g, f = g + 1 := ⟨f - 1, by omega⟩
    rw [← ob_id ((ltow ..).lp _ _), lp_round, R19_34_0, ite2_neg (show geI i (a : Int) = false from by rw [geI_dec]; exact decide_eq_false (by omega)), Hn_zero, Int.pow_zero, Int.mul_one, Int.add_zero]
    exact ⟨_, _, rfl⟩
  | succ r ih =>
    intro i m f hi hr m0 m1 hf
    obtain ⟨f, rfl⟩ : ∃ g, f = g + 1 := ⟨f - 1, by omega⟩
    obtain rfl : i = ((a + r : Nat) : Int) := by omega
    have har : a + r < 40 := by omega
    have hd := h9 _ har
    have hm : m < 1000000000000000 := Int.lt_of_lt_of_le m1 (ten15 (by omega))
    have hp : (10 : Int) ^ (15 - r) = 10 ^ (15 - (r + 1)) * 10 := by rw [show 15 - r = (15 - (r + 1)) + 1 by omega, Int.pow_succ]
    rw [← ob_id ((ltow ..).lp _ _), lp_round, R19_34_0, ite2_pos (show geI (((a + r : Nat)) : Int) (a : Int) = true from by rw [geI_dec]; exact decide_eq_true (by omega)), lt_nat har, idx1, ite2_pos (ble_t' har), hR _ har, ob_of,
      show wrapA IntKind.i64 (Int.sub (((a + r : Nat)) : Int) 1) = (((a + r : Nat)) : Int) - 1 from wrapA_i64 (show _ ≤ (((a + r : Nat)) : Int) - 1 by omega) (show (((a + r : Nat)) : Int) - 1 < _ by omega),
      show wrapA IntKind.i64 (Int.mul 10 m) = 10 * m from wrapA_i64 (show _ ≤ 10 * m by omega) (show 10 * m < _ by omega),
      show wrapA IntKind.i64 (Int.add (10 * m) (D (a + r))) = 10 * m + D (a + r) from wrapA_i64 (show _ ≤ 10 * m + D (a + r) by omega) (show 10 * m + D (a + r) < _ by omega), ob_id]
    obtain ⟨i', tp, g⟩ := ih ((((a + r : Nat)) : Int) - 1) (10 * m + D (a + r)) f (by omega) (by omega) (by omega) (by rw [hp]; omega) (by omega)
    refine ⟨i', tp, g.trans ?_⟩
    have e : (10 * m + D (a + r)) * 10 ^ r + Hn D a r = m * 10 ^ (r + 1) + Hn D a (r + 1) := by
      rw [Hn_split D 1 r a, Hn_succ, Hn_zero, Int.pow_succ, Int.add_mul, Int.mul_comm 10 m, Int.mul_assoc m 10, Int.mul_comm 10 (10 ^ r), show D (a + r) + 10 * 0 = D (a + r) by omega, Int.mul_comm (D (a + r))]
      omega
    rw [e]
theorem tail0 {m s n t y z k x i N : Int} {c : Bool} (s0 : 0 ≤ s) (s1 : s ≤ 6) (t0 : 0 ≤ t) (t1 : t ≤ 6) {D : Nat → Int} {tr : Tr Value} (hR : Ro 40 tr D) (hb : ∀ j, j < 40 → 0 ≤ D j ∧ D j ≤ 20000) (hN : Hn D 0 40 = N) (hN1 : N < 1000000000000000000000000000000) {f : Nat} (hf : 60 ≤ f) :
    ob ((ltow Tryd.prog (fiAt fis 19) (kcall s19) none f).lp (codeAt (code 19) [1, 1, 1, 1, 1, 1, 1, 0, 1, 0, 0]) (st19_19_0 m s n t y false 0 c x i n t tr 0 0 m s)) (fun r => (contAt Tryd.prog (fiAt fis 19) (kcallK [(45, zeroS), (36, normS)]) (kcall [(45, zeroS), (36, normS)]) (ltow Tryd.prog (fiAt fis 19) (kcall s19) none f).lp (ltow Tryd.prog (fiAt fis 19) (kcall s19) none f).gs (code 19) [1, 1, 1, 1, 1, 1, 1, 0, 1, 0] (retK Tryd.prog (fiAt fis 19) (res 19))) r.1 r.2) = some (decRes (Sp.sg c N) (s + t)) := by
  obtain ⟨i', t', D', tp, h1, h2, h3, h4, h5⟩ := carry0 (x0 := m) (x1 := s) (x2 := n) (x3 := t) (x4 := y) (x5 := false) (x7 := c) (x8 := x) (x9 := i) (x10 := n) (x11 := t) (x13 := 0) (x14 := 0) (x15 := m) (x16 := s) 39 0 D tr f (by omega) hR (fun j hj => by omega) (hb 0 (by omega)).1 (by have := hb 0 (by omega); omega) (fun j _ hj => hb j hj) (by omega)
  rw [hN] at h3
  have h39 : D' 39 = 0 := by
    have e := Hn_split D' 1 39 0
    have e2 : (10 : Int) ^ 39 = 1000000000000000000000000000000000000000 := by decide
    have e5 : Hn D' (0 + 39) 1 = D' 39 + 10 * 0 := rfl
    rw [e2, e5] at e
    have e3 : Hn D' 0 (39 + 1) = N := h3
    have e4 := Hn_nonneg D' 39 0 (fun j _ hj => (h4 j (by omega)).1)
    omega
  have h9 : ∀ j, j < 40 → 0 ≤ D' j ∧ D' j ≤ 9 := fun j hj => by
    by_cases e : j = 39
    · subst e; omega
    · exact h4 j (by omega)
  have hn0 : 0 ≤ N := by rw [← h3]; exact Hn_nonneg D' 40 0 fun j _ hj => (h9 j (by omega)).1
  refine (congrArg (fun q => ob q _) h1).trans ?_
  refine (C19_2_0 _ _ _ _ _ _ _ _ _ _ _ _ _ _ _ _ _ tp _ _).trans ?_
  rw [show wrapA IntKind.i64 (Int.add s t) = s + t from wrapA_i64 (show _ ≤ s + t by omega) (show s + t < _ by omega)]
  obtain ⟨a, sc, tp2, g1, g2, g3⟩ := low0  h2 h9 12 0 (s + t) f (by omega) (by omega) (by omega) (by omega)
  refine (congrArg (fun q => ob q _) g1).trans ?_
  refine (C19_3_0 _ _ _ _ _ _ _ _ _ _ _ _ _ _ _ _ _ _ _ tp2 _ _).trans ?_
  rw [show 40 - 0 = 40 from rfl, h3] at g2
  have g4 : Sp.gd 13 N (s + t) = (Hn D' a (40 - a), sc) := by rw [gd_fuel 12 N (s + t) 1 (by omega) (by omega)]; exact g2
  have ge := gd_end 13 N (s + t) (by omega) (by omega)
  rw [g4] at ge
  obtain ⟨ge1, ge2, ge3⟩ := ge
  have gs : Sp.gd 13 (Sp.sg c N) (s + t) = (Sp.sg c (Hn D' a (40 - a)), sc) := by rw [gd_sg, g4]
  have hM0 := Hn_nonneg D' (40 - a) a fun j _ hj => (h9 j (by omega)).1
  have hsp := Hn_split D' (25 - a) 15 a
  rw [show 15 + (25 - a) = 40 - a by omega] at hsp
  have hT0 := Hn_nonneg D' (25 - a) (a + 15) fun j _ hj => (h9 j (by omega)).1
  have hL := Hn_lt D' 15 a fun j _ hj => h9 j (by omega)
  have hL0 := Hn_nonneg D' 15 a fun j _ hj => (h9 j (by omega)).1
  have e15 : (10 : Int) ^ 15 = 1000000000000000 := by decide
  rw [e15] at hsp hL
  have hfr : Sp.fr (L40 D') 0 = true := fr_40 D' (by omega) (by omega)
  have hz := zer_iff D' 0
  have hw : wrapA IntKind.i64 (Int.add (a : Int) 15) = ((a + 15 : Nat) : Int) := wadd (a := a) (b := 15) (by omega)
  have hfr2 : Sp.fr (L40 D') ((a + 15 : Nat) : Int) = true := fr_40 D' (by omega) (by omega)
  have hz2 := zer_iff D' (a + 15)
  rw [h2 0 (by omega), h2 1 (by omega), h2 2 (by omega), h2 3 (by omega), h2 4 (by omega), h2 5 (by omega), h2 6 (by omega), h2 7 (by omega), h2 8 (by omega), h2 9 (by omega), h2 10 (by omega), h2 11 (by omega), h2 12 (by omega), h2 13 (by omega), h2 14 (by omega), h2 15 (by omega), h2 16 (by omega), h2 17 (by omega), h2 18 (by omega), h2 19 (by omega), h2 20 (by omega), h2 21 (by omega), h2 22 (by omega), h2 23 (by omega), h2 24 (by omega), h2 25 (by omega), h2 26 (by omega), h2 27 (by omega), h2 28 (by omega), h2 29 (by omega), h2 30 (by omega), h2 31 (by omega), h2 32 (by omega), h2 33 (by omega), h2 34 (by omega), h2 35 (by omega), h2 36 (by omega), h2 37 (by omega), h2 38 (by omega), h2 39 (by omega)]
  simp only [ob_of]
  rw [show [D' 0, D' 1, D' 2, D' 3, D' 4, D' 5, D' 6, D' 7, D' 8, D' 9, D' 10, D' 11, D' 12, D' 13, D' 14, D' 15, D' 16, D' 17, D' 18, D' 19, D' 20, D' 21, D' 22, D' 23, D' 24, D' 25, D' 26, D' 27, D' 28, D' 29, D' 30, D' 31, D' 32, D' 33, D' 34, D' 35, D' 36, D' 37, D' 38, D' 39] = L40 D' from rfl, hfr, ite2_true, hw, hfr2, ite2_true]
  by_cases hN0 : N = 0
  · have := (hz.2 fun j _ hj => (Hn_all0 D' 40 0 fun j _ hj => (h9 j (by omega)).1).1 (by omega) j (by omega) (by omega))
    rw [show Sp.zer (L40 D') 0 = true from this, ite2_true, hN0]
    have e : Sp.gd 13 (Sp.sg c 0) (s + t) = (0, 0) := by
      have : Sp.sg c 0 = 0 := by unfold Sp.sg; split <;> rfl
      rw [this]; exact gd_zero 13 _ (by omega) (by omega)
    unfold decRes Sp.rM Sp.rS Sp.rOk
    rw [e]; rfl
  · have hzf : Sp.zer (L40 D') 0 = false := by
      cases he : Sp.zer (L40 D') 0 with
      | false => rfl
      | true => exact absurd (h3.symm.trans ((Hn_all0 D' 40 0 fun j _ hj => (h9 j (by omega)).1).2 fun j h1 h2 => hz.1 he j h1 (by omega))) hN0
    rw [hzf, ite2_false]
    have bad : (6 < sc ∨ 1000000000000000 ≤ Hn D' a (40 - a)) → decRes (Sp.sg c N) (s + t) = .tuple ⟨[decV 0 0, .bool false]⟩ := fun hh => by
      refine decRes_no ?_
      cases ho : Sp.rOk (Sp.sg c N) (s + t) with
      | false => rfl
      | true =>
        have := rOk_iff.1 ho
        rw [gs] at this
        simp only [Sp.sg] at this
        split at this <;> omega
    by_cases h6 : 6 < sc
    · rw [ite2_pos (show gtI sc 6 = true from by rw [gtI_dec]; exact decide_eq_true h6), bad (.inl h6)]
      rfl
    rw [ite2_neg (show gtI sc 6 = false from by rw [gtI_dec]; exact decide_eq_false h6)]
    cases hz3 : Sp.zer (L40 D') ((a + 15 : Nat) : Int) with
    | false =>
      have hT : Hn D' (a + 15) (25 - a) ≠ 0 := fun e => by
        have := hz2.2 fun j j1 j2 => (Hn_all0 D' (25 - a) (a + 15) fun j _ hj => (h9 j (by omega)).1).1 e j j1 (by omega)
        rw [this] at hz3; cases hz3
      rw [bad (.inr (by omega))]
      rfl
    | true =>
      have hT : Hn D' (a + 15) (25 - a) = 0 := (Hn_all0 D' (25 - a) (a + 15) fun j _ hj => (h9 j (by omega)).1).2 fun j j1 j2 => hz2.1 hz3 j j1 (by omega)
      rw [hT, Int.mul_zero, Int.add_zero] at hsp
      rw [show ite2 true false true = false from rfl, ite2_false]
      obtain ⟨i'', tp3, d1⟩ := digs0  (a := a) (by omega) h2 h9 15 (wrapA IntKind.i64 (Int.sub ((a + 15 : Nat) : Int) 1)) 0 f ((wrapA_i64 (show _ ≤ ((a + 15 : Nat) : Int) - 1 by omega) (show ((a + 15 : Nat) : Int) - 1 < _ by omega)).trans (by show ((a + 15 : Nat) : Int) - 1 = _; omega)) (by omega) (by omega) (by decide) (by omega)
      refine (congrArg (fun q => ob q _) d1).trans ?_
      refine (C19_5_0 _ _ _ _ _ _ _ _ _ _ _ _ _ _ _ _ _ _ _ _ _ tp3 _ _).trans ?_
      rw [Int.zero_mul, Int.zero_add, ← hsp]
      have i12 : Sp.in12 sc = true := in12_iff.2 ⟨ge2, by omega⟩
      rw [i12]
      have fin : decRes (Sp.sg c N) (s + t) = decRes (Sp.sg c (Hn D' a (40 - a))) sc := decRes_gd (by rw [gs, gd_sg, gd_stop _ _ _ ge1 ge2])
      rw [fin]
      cases c
      · rw [show Sp.in62 (Hn D' a (40 - a)) = true from in62_iff.2 ⟨by omega, by omega⟩]; rfl
      · rw [show wrapA IntKind.i64 (Int.sub 0 (Hn D' a (40 - a))) = -(Hn D' a (40 - a)) from (wrapA_i64 (show _ ≤ 0 - Hn D' a (40 - a) by omega) (show 0 - Hn D' a (40 - a) < _ by omega)).trans (Int.zero_sub _), show Sp.in62 (-(Hn D' a (40 - a))) = true from in62_iff.2 ⟨by omega, by omega⟩]; rfl
theorem carry1 {x0 : Int} {x1 : Int} {x2 : Int} {x3 : Int} {x4 : Int} {x5 : Int} {x6 : Bool} {x8 : Bool} {x9 : Int} {x10 : Int} {x11 : Int} {x12 : Int} {x13 : Int} {x15 : Int} {x16 : Int} {x17 : Int} {x18 : Int} : ∀ (r i : Nat) (D : Nat → Int) (t : Tr Value) (f : Nat), i + r = 39 → Ro 40 t D → (∀ j, j < i → 0 ≤ D j ∧ D j ≤ 9) → 0 ≤ D i → D i ≤ 40000 → (∀ j, i < j → j < 40 → 0 ≤ D j ∧ D j ≤ 20000) → r < f →
    ∃ i' t' D' tp, (ltow Tryd.prog (fiAt fis 19) (kcall s19) none f).lp (codeAt (code 19) [1, 1, 1, 1, 1, 1, 1, 0, 1, 0, 0]) (st19_19_1 x0 x1 x2 x3 x4 x5 x6 ((i : Nat) : Int) x8 x9 x10 x11 x12 x13 t x15 x16 x17 x18) = some (.exit 4, ex19_4 x0 x1 x2 x3 x4 x5 x6 i' x8 x9 x10 x11 x12 x13 t' x15 x16 x17 x18 tp) ∧
      Ro 40 t' D' ∧ Hn D' 0 40 = Hn D 0 40 ∧ (∀ j, j < 39 → 0 ≤ D' j ∧ D' j ≤ 9) ∧ 0 ≤ D' 39 := by
  intro r
  induction r with
  | zero =>
    intro i D t f hi hR h9 h0 h1 hb hf
    obtain ⟨f, rfl⟩ : ∃ g, f = g + 1 := ⟨f - 1, by omega⟩
    obtain rfl : i = 39 := by omega
    rw [← ob_id ((ltow ..).lp _ _), lp_round, R19_19_1, wsucc (by omega), ite2_neg (show ltI (((39 + 1 : Nat)) : Int) 40 = false from by rw [ltI_eq]; rfl)]
    exact ⟨_, _, D, _, rfl, hR, rfl, h9, h0⟩
  | succ r ih =>
    intro i D t f hi hR h9 h0 h1 hb hf
    obtain ⟨f, rfl⟩ : ∃ g, f = g + 1 := ⟨f - 1, by omega⟩
    have hi1 : i + 1 < 40 := by omega
    have hi0 : i < 40 := by omega
    have hn := hb (i + 1) (by omega) hi1
    have q1 : wrapA IntKind.i64 (Int.tdiv (D i) 10) = D i / 10 := by rw [Int.tdiv_eq_ediv_of_nonneg h0]; exact wrapA_i64 (by omega) (by omega)
    have q2 : wrapA IntKind.i64 (Int.add (D (i + 1)) (D i / 10)) = D (i + 1) + D i / 10 := wrapA_i64 (show _ ≤ D (i + 1) + D i / 10 by omega) (show D (i + 1) + D i / 10 < _ by omega)
    have q3 : Int.tmod (D i) 10 = D i % 10 := Int.tmod_eq_emod_of_nonneg h0
    have hS := hR.set (by omega) hi1 (D (i + 1) + D i / 10)
    have hSi := hS i hi0
    rw [upd_ne _ _ _ (show i ≠ i + 1 by omega)] at hSi
    rw [← ob_id ((ltow ..).lp _ _), lp_round, R19_19_1, wsucc (by omega), ite2_pos (show ltI (((i + 1 : Nat)) : Int) 40 = true from by rw [ltI_eq]; exact decide_eq_true (by omega)), lt_nat hi1, idx1, ite2_pos (ble_t' hi1), hR _ hi1, ob_of, lt_nat hi0, idx1, ite2_pos (ble_t' hi0), hR _ hi0, ob_of, q1, q2,
      lt_nat hi1, idx1, ite2_pos (show Nat.ble (Nat.add (i + 1) 1) 40 = true from ble_t' hi1), lt_nat hi0, idx1, ite2_pos (ble_t' hi0), hSi, ob_of, lt_nat hi0, idx1, ite2_pos (show Nat.ble (Nat.add i 1) 40 = true from ble_t' hi0), ob_id, q3]
    obtain ⟨i', t', D', tp, g1, g2, g3, g4, g5⟩ := ih (i + 1) (upd (upd D (i + 1) (D (i + 1) + D i / 10)) i (D i % 10)) _ f (by omega) (hS.set (by omega) hi0 (D i % 10)) (fun j hj => by
        by_cases e : j = i
        · subst e; rw [upd_same]; omega
        · rw [upd_ne _ _ _ e, upd_ne _ _ _ (show j ≠ i + 1 by omega)]; exact h9 j (by omega))
      (by rw [upd_ne _ _ _ (show i + 1 ≠ i by omega), upd_same]; omega) (by rw [upd_ne _ _ _ (show i + 1 ≠ i by omega), upd_same]; omega)
      (fun j h1 h2 => by rw [upd_ne _ _ _ (show j ≠ i by omega), upd_ne _ _ _ (show j ≠ i + 1 by omega)]; exact hb j (by omega) h2) (by omega)
    refine ⟨i', t', D', tp, g1, g2, ?_, g4, g5⟩
    rw [g3, Hn_upd _ i _ 40 0 (by omega) (by omega), Hn_upd _ (i + 1) _ 40 0 (by omega) (by omega), upd_ne _ _ _ (show i ≠ i + 1 by omega), Nat.sub_zero, Nat.sub_zero, Int.pow_succ, show D (i + 1) + D i / 10 - D (i + 1) = D i / 10 by omega, ← Int.mul_assoc, show D i % 10 - D i = -(10 * (D i / 10)) by omega, Int.neg_mul, Int.mul_assoc 10]
    omega
theorem low1 {x0 : Int} {x1 : Int} {x2 : Int} {x3 : Int} {x4 : Int} {x6 : Int} {x7 : Bool} {x8 : Int} {x9 : Bool} {x10 : Int} {x11 : Int} {x12 : Int} {x14 : Int} {x15 : Int} {x17 : Int} {x18 : Int} {x19 : Int} {x20 : Int} {D : Nat → Int} {t : Tr Value} (hR : Ro 40 t D) (h9 : ∀ j, j < 40 → 0 ≤ D j ∧ D j ≤ 9) : ∀ (n a : Nat) (sc : Int) (f : Nat), 0 ≤ sc → sc ≤ n → a + n ≤ 39 → n < f →
    ∃ (a' : Nat) (sc' : Int) (tp : _), (ltow Tryd.prog (fiAt fis 19) (kcall s19) none f).lp (codeAt (code 19) [1, 1, 1, 1, 1, 1, 1, 1, 1, 1, 0, 0, 0]) (st19_25_1 x0 x1 x2 x3 x4 ((a : Nat) : Int) x6 x7 x8 x9 x10 x11 x12 sc x14 x15 t x17 x18 x19 x20) = some (.exit 6, ex19_6 x0 x1 x2 x3 x4 ((a' : Nat) : Int) x6 x7 x8 x9 x10 x11 x12 sc' x14 x15 t x17 x18 x19 x20 tp) ∧
      Sp.gd n (Hn D a (40 - a)) sc = (Hn D a' (40 - a'), sc') ∧ a' ≤ a + n := by
  intro n
  induction n with
  | zero =>
    intro a sc f s0 s1 ha hf
    obtain ⟨f, rfl⟩ : ∃ g, f = g + 1 := ⟨f - 1, by omega⟩
    obtain rfl : sc = 0 := by omega
    rw [← ob_id ((ltow ..).lp _ _), lp_round, R19_25_1, ite2_neg (show gtI 0 0 = false from by rw [gtI_dec]; rfl)]
    exact ⟨a, 0, _, rfl, rfl, by omega⟩
  | succ n ih =>
    intro a sc f s0 s1 ha hf
    obtain ⟨f, rfl⟩ : ∃ g, f = g + 1 := ⟨f - 1, by omega⟩
    have ha0 : a < 40 := by omega
    have hl := lowD (D := D) (k := a) (n := 39 - a) (h9 a ha0) (Hn_nonneg D _ _ fun j _ h2 => (h9 j (by omega)).1)
    rw [show 39 - a + 1 = 40 - a by omega] at hl
    rw [← ob_id ((ltow ..).lp _ _), lp_round, R19_25_1]
    by_cases hs : 0 < sc
    · rw [ite2_pos (show gtI sc 0 = true from by rw [gtI_dec]; exact decide_eq_true hs), lt_nat ha0, idx1, ite2_pos (ble_t' ha0), hR _ ha0, ob_of]
      by_cases hz : D a = 0
      · rw [ite2_pos (show eqI (D a) 0 = true from by rw [eqI_dec]; exact decide_eq_true hz), wsucc (by omega), show wrapA IntKind.i64 (Int.sub sc 1) = sc - 1 from wrapA_i64 (show _ ≤ sc - 1 by omega) (show sc - 1 < _ by omega), ob_id]
        obtain ⟨a', sc', tp, g1, g2, g3⟩ := ih (a + 1) (sc - 1) f (by omega) (by omega) (by omega) (by omega)
        refine ⟨a', sc', tp, g1, ?_, by omega⟩
        unfold Sp.gd
        rw [if_pos ⟨hs, by rw [hl.1]; exact hz⟩, hl.2, ← g2, show 39 - a = 40 - (a + 1) by omega]
      · rw [ite2_neg (show eqI (D a) 0 = false from by rw [eqI_dec]; exact decide_eq_false hz)]
        refine ⟨a, sc, _, rfl, ?_, by omega⟩
        exact gd_stop _ _ _ (.inr (by rw [hl.1]; exact hz)) s0
    · obtain rfl : sc = 0 := by omega
      rw [ite2_neg (show gtI 0 0 = false from by rw [gtI_dec]; rfl)]
      exact ⟨a, 0, _, rfl, gd_stop _ _ _ (.inl rfl) (Int.le_refl _), by omega⟩
theorem digs1 {x0 : Int} {x1 : Int} {x2 : Int} {x3 : Int} {x4 : Int} {x6 : Int} {x7 : Bool} {x9 : Int} {x10 : Bool} {x12 : Int} {x13 : Int} {x14 : Int} {x15 : Int} {x16 : Int} {x17 : Int} {x19 : Int} {x20 : Int} {x21 : Int} {x22 : Int} {D : Nat → Int} {t : Tr Value} {a : Nat} (ha : a ≤ 20) (hR : Ro 40 t D) (h9 : ∀ j, j < 40 → 0 ≤ D j ∧ D j ≤ 9) : ∀ (r : Nat) (i m : Int) (f : Nat), i = (a : Int) + r - 1 → r ≤ 15 → 0 ≤ m → m < 10 ^ (15 - r) → r < f →
    ∃ i' tp, (ltow Tryd.prog (fiAt fis 19) (kcall s19) none f).lp (codeAt (code 19) [1, 1, 1, 1, 1, 1, 1, 1, 1, 1, 1, 1, 1, 1, 0, 1, 0, 0]) (st19_34_1 x0 x1 x2 x3 x4 ((a : Nat) : Int) x6 x7 i x9 x10 m x12 x13 x14 x15 x16 x17 t x19 x20 x21 x22) = some (.exit 8, ex19_7 x0 x1 x2 x3 x4 ((a : Nat) : Int) x6 x7 i' x9 x10 (m * 10 ^ r + Hn D a r) x12 x13 x14 x15 x16 x17 t x19 x20 x21 x22 tp) := by
  intro r
  induction r with
  | zero =>
    intro i m f hi hr m0 m1 hf
    obtain ⟨f, rfl⟩ : ∃ g, f = g + 1 := ⟨f - 1, by omega⟩
    rw [← ob_id ((ltow ..).lp _ _), lp_round, R19_34_1, ite2_neg (show geI i (a : Int) = false from by rw [geI_dec]; exact decide_eq_false (by omega)), Hn_zero, Int.pow_zero, Int.mul_one, Int.add_zero]
    exact ⟨_, _, rfl⟩
  | succ r ih =>
    intro i m f hi hr m0 m1 hf
    obtain ⟨f, rfl⟩ : ∃ g, f = g + 1 := ⟨f - 1, by omega⟩
    obtain rfl : i = ((a + r : Nat) : Int) := by omega
    have har : a + r < 40 := by omega
    have hd := h9 _ har
    have hm : m < 1000000000000000 := Int.lt_of_lt_of_le m1 (ten15 (by omega))
    have hp : (10 : Int) ^ (15 - r) = 10 ^ (15 - (r + 1)) * 10 := by rw [show 15 - r = (15 - (r + 1)) + 1 by omega, Int.pow_succ]
    rw [← ob_id ((ltow ..).lp _ _), lp_round, R19_34_1, ite2_pos (show geI (((a + r : Nat)) : Int) (a : Int) = true from by rw [geI_dec]; exact decide_eq_true (by omega)), lt_nat har, idx1, ite2_pos (ble_t' har), hR _ har, ob_of,
      show wrapA IntKind.i64 (Int.sub (((a + r : Nat)) : Int) 1) = (((a + r : Nat)) : Int) - 1 from wrapA_i64 (show _ ≤ (((a + r : Nat)) : Int) - 1 by omega) (show (((a + r : Nat)) : Int) - 1 < _ by omega),
      show wrapA IntKind.i64 (Int.mul 10 m) = 10 * m from wrapA_i64 (show _ ≤ 10 * m by omega) (show 10 * m < _ by omega),
      show wrapA IntKind.i64 (Int.add (10 * m) (D (a + r))) = 10 * m + D (a + r) from wrapA_i64 (show _ ≤ 10 * m + D (a + r) by omega) (show 10 * m + D (a + r) < _ by omega), ob_id]
    obtain ⟨i', tp, g⟩ := ih ((((a + r : Nat)) : Int) - 1) (10 * m + D (a + r)) f (by omega) (by omega) (by omega) (by rw [hp]; omega) (by omega)
    refine ⟨i', tp, g.trans ?_⟩
    have e : (10 * m + D (a + r)) * 10 ^ r + Hn D a r = m * 10 ^ (r + 1) + Hn D a (r + 1) := by
      rw [Hn_split D 1 r a, Hn_succ, Hn_zero, Int.pow_succ, Int.add_mul, Int.mul_comm 10 m, Int.mul_assoc m 10, Int.mul_comm 10 (10 ^ r), show D (a + r) + 10 * 0 = D (a + r) by omega, Int.mul_comm (D (a + r))]
      omega
    rw [e]
theorem tail1 {m s n t y z k x i N : Int} {c : Bool} (s0 : 0 ≤ s) (s1 : s ≤ 6) (t0 : 0 ≤ t) (t1 : t ≤ 6) {D : Nat → Int} {tr : Tr Value} (hR : Ro 40 tr D) (hb : ∀ j, j < 40 → 0 ≤ D j ∧ D j ≤ 20000) (hN : Hn D 0 40 = N) (hN1 : N < 1000000000000000000000000000000) {f : Nat} (hf : 60 ≤ f) :
    ob ((ltow Tryd.prog (fiAt fis 19) (kcall s19) none f).lp (codeAt (code 19) [1, 1, 1, 1, 1, 1, 1, 0, 1, 0, 0]) (st19_19_1 m s n t y z false 0 c k x i n t tr 0 0 m s)) (fun r => (contAt Tryd.prog (fiAt fis 19) (kcallK [(45, zeroS), (36, normS)]) (kcall [(45, zeroS), (36, normS)]) (ltow Tryd.prog (fiAt fis 19) (kcall s19) none f).lp (ltow Tryd.prog (fiAt fis 19) (kcall s19) none f).gs (code 19) [1, 1, 1, 1, 1, 1, 1, 0, 1, 0] (retK Tryd.prog (fiAt fis 19) (res 19))) r.1 r.2) = some (decRes (Sp.sg c N) (s + t)) := by
  obtain ⟨i', t', D', tp, h1, h2, h3, h4, h5⟩ := carry1 (x0 := m) (x1 := s) (x2 := n) (x3 := t) (x4 := y) (x5 := z) (x6 := false) (x8 := c) (x9 := k) (x10 := x) (x11 := i) (x12 := n) (x13 := t) (x15 := 0) (x16 := 0) (x17 := m) (x18 := s) 39 0 D tr f (by omega) hR (fun j hj => by omega) (hb 0 (by omega)).1 (by have := hb 0 (by omega); omega) (fun j _ hj => hb j hj) (by omega)
  rw [hN] at h3
  have h39 : D' 39 = 0 := by
    have e := Hn_split D' 1 39 0
    have e2 : (10 : Int) ^ 39 = 1000000000000000000000000000000000000000 := by decide
    have e5 : Hn D' (0 + 39) 1 = D' 39 + 10 * 0 := rfl
    rw [e2, e5] at e
    have e3 : Hn D' 0 (39 + 1) = N := h3
    have e4 := Hn_nonneg D' 39 0 (fun j _ hj => (h4 j (by omega)).1)
    omega
  have h9 : ∀ j, j < 40 → 0 ≤ D' j ∧ D' j ≤ 9 := fun j hj => by
    by_cases e : j = 39
    · subst e; omega
    · exact h4 j (by omega)
  have hn0 : 0 ≤ N := by rw [← h3]; exact Hn_nonneg D' 40 0 fun j _ hj => (h9 j (by omega)).1
  refine (congrArg (fun q => ob q _) h1).trans ?_
  refine (C19_4_0 _ _ _ _ _ _ _ _ _ _ _ _ _ _ _ _ _ _ _ tp _ _).trans ?_
  rw [show wrapA IntKind.i64 (Int.add s t) = s + t from wrapA_i64 (show _ ≤ s + t by omega) (show s + t < _ by omega)]
  obtain ⟨a, sc, tp2, g1, g2, g3⟩ := low1  h2 h9 12 0 (s + t) f (by omega) (by omega) (by omega) (by omega)
  refine (congrArg (fun q => ob q _) g1).trans ?_
  refine (C19_6_0 _ _ _ _ _ _ _ _ _ _ _ _ _ _ _ _ _ _ _ _ _ tp2 _ _).trans ?_
  rw [show 40 - 0 = 40 from rfl, h3] at g2
  have g4 : Sp.gd 13 N (s + t) = (Hn D' a (40 - a), sc) := by rw [gd_fuel 12 N (s + t) 1 (by omega) (by omega)]; exact g2
  have ge := gd_end 13 N (s + t) (by omega) (by omega)
  rw [g4] at ge
  obtain ⟨ge1, ge2, ge3⟩ := ge
  have gs : Sp.gd 13 (Sp.sg c N) (s + t) = (Sp.sg c (Hn D' a (40 - a)), sc) := by rw [gd_sg, g4]
  have hM0 := Hn_nonneg D' (40 - a) a fun j _ hj => (h9 j (by omega)).1
  have hsp := Hn_split D' (25 - a) 15 a
  rw [show 15 + (25 - a) = 40 - a by omega] at hsp
  have hT0 := Hn_nonneg D' (25 - a) (a + 15) fun j _ hj => (h9 j (by omega)).1
  have hL := Hn_lt D' 15 a fun j _ hj => h9 j (by omega)
  have hL0 := Hn_nonneg D' 15 a fun j _ hj => (h9 j (by omega)).1
  have e15 : (10 : Int) ^ 15 = 1000000000000000 := by decide
  rw [e15] at hsp hL
  have hfr : Sp.fr (L40 D') 0 = true := fr_40 D' (by omega) (by omega)
  have hz := zer_iff D' 0
  have hw : wrapA IntKind.i64 (Int.add (a : Int) 15) = ((a + 15 : Nat) : Int) := wadd (a := a) (b := 15) (by omega)
  have hfr2 : Sp.fr (L40 D') ((a + 15 : Nat) : Int) = true := fr_40 D' (by omega) (by omega)
  have hz2 := zer_iff D' (a + 15)
  rw [h2 0 (by omega), h2 1 (by omega), h2 2 (by omega), h2 3 (by omega), h2 4 (by omega), h2 5 (by omega), h2 6 (by omega), h2 7 (by omega), h2 8 (by omega), h2 9 (by omega), h2 10 (by omega), h2 11 (by omega), h2 12 (by omega), h2 13 (by omega), h2 14 (by omega), h2 15 (by omega), h2 16 (by omega), h2 17 (by omega), h2 18 (by omega), h2 19 (by omega), h2 20 (by omega), h2 21 (by omega), h2 22 (by omega), h2 23 (by omega), h2 24 (by omega), h2 25 (by omega), h2 26 (by omega), h2 27 (by omega), h2 28 (by omega), h2 29 (by omega), h2 30 (by omega), h2 31 (by omega), h2 32 (by omega), h2 33 (by omega), h2 34 (by omega), h2 35 (by omega), h2 36 (by omega), h2 37 (by omega), h2 38 (by omega), h2 39 (by omega)]
  simp only [ob_of]
  rw [show [D' 0, D' 1, D' 2, D' 3, D' 4, D' 5, D' 6, D' 7, D' 8, D' 9, D' 10, D' 11, D' 12, D' 13, D' 14, D' 15, D' 16, D' 17, D' 18, D' 19, D' 20, D' 21, D' 22, D' 23, D' 24, D' 25, D' 26, D' 27, D' 28, D' 29, D' 30, D' 31, D' 32, D' 33, D' 34, D' 35, D' 36, D' 37, D' 38, D' 39] = L40 D' from rfl, hfr, ite2_true, hw, hfr2, ite2_true]
  by_cases hN0 : N = 0
  · have := (hz.2 fun j _ hj => (Hn_all0 D' 40 0 fun j _ hj => (h9 j (by omega)).1).1 (by omega) j (by omega) (by omega))
    rw [show Sp.zer (L40 D') 0 = true from this, ite2_true, hN0]
    have e : Sp.gd 13 (Sp.sg c 0) (s + t) = (0, 0) := by
      have : Sp.sg c 0 = 0 := by unfold Sp.sg; split <;> rfl
      rw [this]; exact gd_zero 13 _ (by omega) (by omega)
    unfold decRes Sp.rM Sp.rS Sp.rOk
    rw [e]; rfl
  · have hzf : Sp.zer (L40 D') 0 = false := by
      cases he : Sp.zer (L40 D') 0 with
      | false => rfl
      | true => exact absurd (h3.symm.trans ((Hn_all0 D' 40 0 fun j _ hj => (h9 j (by omega)).1).2 fun j h1 h2 => hz.1 he j h1 (by omega))) hN0
    rw [hzf, ite2_false]
    have bad : (6 < sc ∨ 1000000000000000 ≤ Hn D' a (40 - a)) → decRes (Sp.sg c N) (s + t) = .tuple ⟨[decV 0 0, .bool false]⟩ := fun hh => by
      refine decRes_no ?_
      cases ho : Sp.rOk (Sp.sg c N) (s + t) with
      | false => rfl
      | true =>
        have := rOk_iff.1 ho
        rw [gs] at this
        simp only [Sp.sg] at this
        split at this <;> omega
    by_cases h6 : 6 < sc
    · rw [ite2_pos (show gtI sc 6 = true from by rw [gtI_dec]; exact decide_eq_true h6), bad (.inl h6)]
      rfl
    rw [ite2_neg (show gtI sc 6 = false from by rw [gtI_dec]; exact decide_eq_false h6)]
    cases hz3 : Sp.zer (L40 D') ((a + 15 : Nat) : Int) with
    | false =>
      have hT : Hn D' (a + 15) (25 - a) ≠ 0 := fun e => by
        have := hz2.2 fun j j1 j2 => (Hn_all0 D' (25 - a) (a + 15) fun j _ hj => (h9 j (by omega)).1).1 e j j1 (by omega)
        rw [this] at hz3; cases hz3
      rw [bad (.inr (by omega))]
      rfl
    | true =>
      have hT : Hn D' (a + 15) (25 - a) = 0 := (Hn_all0 D' (25 - a) (a + 15) fun j _ hj => (h9 j (by omega)).1).2 fun j j1 j2 => hz2.1 hz3 j j1 (by omega)
      rw [hT, Int.mul_zero, Int.add_zero] at hsp
      rw [show ite2 true false true = false from rfl, ite2_false]
      obtain ⟨i'', tp3, d1⟩ := digs1  (a := a) (by omega) h2 h9 15 (wrapA IntKind.i64 (Int.sub ((a + 15 : Nat) : Int) 1)) 0 f ((wrapA_i64 (show _ ≤ ((a + 15 : Nat) : Int) - 1 by omega) (show ((a + 15 : Nat) : Int) - 1 < _ by omega)).trans (by show ((a + 15 : Nat) : Int) - 1 = _; omega)) (by omega) (by omega) (by decide) (by omega)
      refine (congrArg (fun q => ob q _) d1).trans ?_
      refine (C19_7_0 _ _ _ _ _ _ _ _ _ _ _ _ _ _ _ _ _ _ _ _ _ _ _ tp3 _ _).trans ?_
      rw [Int.zero_mul, Int.zero_add, ← hsp]
      have i12 : Sp.in12 sc = true := in12_iff.2 ⟨ge2, by omega⟩
      rw [i12]
      have fin : decRes (Sp.sg c N) (s + t) = decRes (Sp.sg c (Hn D' a (40 - a))) sc := decRes_gd (by rw [gs, gd_sg, gd_stop _ _ _ ge1 ge2])
      rw [fin]
      cases c
      · rw [show Sp.in62 (Hn D' a (40 - a)) = true from in62_iff.2 ⟨by omega, by omega⟩]; rfl
      · rw [show wrapA IntKind.i64 (Int.sub 0 (Hn D' a (40 - a))) = -(Hn D' a (40 - a)) from (wrapA_i64 (show _ ≤ 0 - Hn D' a (40 - a) by omega) (show 0 - Hn D' a (40 - a) < _ by omega)).trans (Int.zero_sub _), show Sp.in62 (-(Hn D' a (40 - a))) = true from in62_iff.2 ⟨by omega, by omega⟩]; rfl

end
end Go.Proofs.YtpnjbagpplodjaaDoor
