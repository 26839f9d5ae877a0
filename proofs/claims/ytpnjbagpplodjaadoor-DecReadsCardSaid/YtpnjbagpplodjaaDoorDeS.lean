/- Products by the reference: digits. -/
import Derived.Test.YtpnjbagpplodjaaDoorDeR
namespace Go.Proofs.YtpnjbagpplodjaaDoor
open Go.RowKit Go.Am
set_option maxRecDepth 1000000
set_option linter.unusedSimpArgs false
set_option linter.unusedVariables false
noncomputable section
/-! ### rows of digits -/
def upd (D : Nat → Int) (a : Nat) (v : Int) : Nat → Int := fun j => if j = a then v else D j
/-- the number of digits from one on, the lowest first. -/
def Hn (D : Nat → Int) (k n : Nat) : Int := Nat.rec (motive := fun _ => Nat → Int) (fun _ => 0) (fun _ ih k => D k + 10 * ih (k + 1)) n k
theorem Hn_zero (D : Nat → Int) (k : Nat) : Hn D k 0 = 0 := rfl
theorem Hn_succ (D : Nat → Int) (k n : Nat) : Hn D k (n + 1) = D k + 10 * Hn D (k + 1) n := rfl
theorem Hn_same (D E : Nat → Int) : ∀ (n k : Nat), (∀ j, k ≤ j → j < k + n → D j = E j) → Hn D k n = Hn E k n := by
  intro n
  induction n with
  | zero => intro k _; rfl
  | succ n ih =>
    intro k h
    rw [Hn_succ, Hn_succ, h k (by omega) (by omega), ih (k + 1) (fun j h1 h2 => h j (by omega) (by omega))]
theorem Hn_upd (D : Nat → Int) (a : Nat) (v : Int) : ∀ (n k : Nat), k ≤ a → a < k + n → Hn (upd D a v) k n = Hn D k n + (v - D a) * 10 ^ (a - k) := by
  intro n
  induction n with
  | zero => intro k h1 h2; omega
  | succ n ih =>
    intro k h1 h2
    rw [Hn_succ, Hn_succ]
    by_cases h : k = a
    · subst h
      rw [Hn_same (upd D k v) D n (k + 1) (fun j h1 _ => by unfold upd; rw [if_neg (by omega)])]
      have : upd D k v k = v := by unfold upd; rw [if_pos rfl]
      rw [this, Nat.sub_self, Int.pow_zero]; omega
    · rw [ih (k + 1) (by omega) (by omega)]
      have : upd D a v k = D k := by unfold upd; rw [if_neg h]
      rw [this, show a - k = (a - (k + 1)) + 1 by omega, Int.pow_succ, ← Int.mul_assoc]
      omega
theorem Hn_nonneg (D : Nat → Int) : ∀ (n k : Nat), (∀ j, k ≤ j → j < k + n → 0 ≤ D j) → 0 ≤ Hn D k n := by
  intro n
  induction n with
  | zero => intro k _; exact Int.le_refl _
  | succ n ih =>
    intro k h
    rw [Hn_succ]
    have h1 := h k (by omega) (by omega)
    have h2 := ih (k + 1) (fun j h1 h2 => h j (by omega) (by omega))
    omega
theorem Hn_split (D : Nat → Int) (m : Nat) : ∀ (n k : Nat), Hn D k (n + m) = Hn D k n + 10 ^ n * Hn D (k + n) m := by
  intro n
  induction n with
  | zero => intro k; rw [Hn_zero, Int.pow_zero, Nat.zero_add]; simp
  | succ n ih =>
    intro k
    rw [show n + 1 + m = (n + m) + 1 by omega, Hn_succ, Hn_succ, ih (k + 1), Int.pow_succ, show k + 1 + n = k + (n + 1) by omega, Int.mul_add, Int.mul_comm (10 ^ n) 10, Int.mul_assoc]
    omega
theorem Hn_lt (D : Nat → Int) : ∀ (n k : Nat), (∀ j, k ≤ j → j < k + n → 0 ≤ D j ∧ D j ≤ 9) → Hn D k n < 10 ^ n := by
  intro n
  induction n with
  | zero => intro k _; rw [Hn_zero]; decide
  | succ n ih =>
    intro k h
    rw [Hn_succ, Int.pow_succ]
    have h1 := h k (by omega) (by omega)
    have h2 := ih (k + 1) (fun j h1 h2 => h j (by omega) (by omega))
    omega
theorem Hn_all0 (D : Nat → Int) : ∀ (n k : Nat), (∀ j, k ≤ j → j < k + n → 0 ≤ D j) → (Hn D k n = 0 ↔ ∀ j, k ≤ j → j < k + n → D j = 0) := by
  intro n
  induction n with
  | zero => intro k _; exact ⟨fun _ j h1 h2 => by omega, fun _ => rfl⟩
  | succ n ih =>
    intro k h
    rw [Hn_succ]
    have h1 := h k (by omega) (by omega)
    have h2 := Hn_nonneg D n (k + 1) (fun j h1 h2 => h j (by omega) (by omega))
    have h3 := ih (k + 1) (fun j h1 h2 => h j (by omega) (by omega))
    constructor
    · intro e j j1 j2
      by_cases hj : j = k
      · subst hj; omega
      · exact h3.1 (by omega) j (by omega) (by omega)
    · intro e
      rw [h3.2 (fun j j1 j2 => e j (by omega) (by omega)), e k (by omega) (by omega)]; rfl
/-! rows in memory -/
def Ro (n : Nat) (t : Tr Value) (D : Nat → Int) : Prop := ∀ j, j < n → getI .i64 t j = some (D j)
theorem getI_set (v : Int) (t : Tr Value) (a j : Nat) (h : a < 100000) : getI .i64 (Tr.set (.int .i64 v) 50 t a) j = if j = a then some v else getI .i64 t j := by
  unfold getI
  rw [show Tr.set (Value.int IntKind.i64 v) 50 t a = Tr.set (Value.int IntKind.i64 v) dep t a from rfl, Tr.get_put _ _ _ _ h]
  split <;> rfl
theorem Ro.set {n : Nat} {t : Tr Value} {D : Nat → Int} (h : Ro n t D) (hn : n < 100000) {a : Nat} (ha : a < n) (v : Int) : Ro n (Tr.set (.int .i64 v) 50 t a) (upd D a v) := by
  intro j hj
  rw [getI_set v t a j (by omega)]
  unfold upd
  split
  · rfl
  · exact h j hj
theorem idx1 (j : Nat) : Nat.add 0 (Nat.mul j 1) = j := by show 0 + j * 1 = j; omega
theorem upd_same (D : Nat → Int) (a : Nat) (v : Int) : upd D a v a = v := by unfold upd; rw [if_pos rfl]
theorem upd_ne (D : Nat → Int) (a : Nat) (v : Int) {j : Nat} (h : j ≠ a) : upd D a v j = D j := by unfold upd; rw [if_neg h]
theorem ble_t' {a b : Nat} (h : a ≤ b) : Nat.ble a b = true := Nat.ble_eq_true_of_le h
theorem lt_nat {β : Type} {i n : Nat} (h : i < n) (f : Nat → Option β) : ob (lt? ((i : Nat) : Int) n) f = f i := by
  rw [ob_lt (Int.natCast_nonneg i) (by omega), Int.toNat_natCast]
/-! texts of forty numbers -/
def L40 (D : Nat → Int) : List Int := (List.range 40).map D
theorem zer_iff (D : Nat → Int) (i : Nat) : Sp.zer (L40 D) (i : Int) = true ↔ ∀ j, i ≤ j → j < 40 → D j = 0 := by
  unfold Sp.zer L40
  rw [Int.toNat_natCast, List.all_eq_true]
  constructor
  · intro h j h1 h2
    have := h (D j) (by
      rw [List.mem_iff_getElem?]
      refine ⟨j - i, ?_⟩
      rw [List.getElem?_drop, show i + (j - i) = j by omega, List.getElem?_map, List.getElem?_range h2]; rfl)
    simpa using this
  · intro h x hx
    rw [List.mem_iff_getElem?] at hx
    obtain ⟨k, hk⟩ := hx
    rw [List.getElem?_drop, List.getElem?_map] at hk
    by_cases hl : i + k < 40
    · rw [List.getElem?_range hl] at hk
      obtain rfl := Option.some.inj hk
      simpa using h (i + k) (by omega) hl
    · rw [List.getElem?_eq_none (by simp; omega)] at hk; cases hk
theorem fr_40 (D : Nat → Int) {i : Int} (h0 : 0 ≤ i) (h1 : i < 1000) : Sp.fr (L40 D) i = true := decide_eq_true ⟨by unfold L40; simp, h0, h1⟩
/-! noughts behind the point, by digits -/
theorem gd_zero : ∀ (n : Nat) (s : Int), 0 ≤ s → s ≤ n → Sp.gd n 0 s = (0, 0) := by
  intro n
  induction n with
  | zero => intro s h0 h1; obtain rfl : s = 0 := by omega
            rfl
  | succ n ih =>
    intro s h0 h1
    unfold Sp.gd
    by_cases h : 0 < s
    · rw [if_pos ⟨h, rfl⟩]; exact ih (s - 1) (by omega) (by omega)
    · rw [if_neg (fun hh => h hh.1)]
      obtain rfl : s = 0 := by omega
      rfl
theorem wadd {a b : Nat} (h : a + b < 1000000) : wrapA IntKind.i64 (Int.add (a : Int) (b : Int)) = ((a + b : Nat) : Int) :=
  (wrapA_i64 (show -9223372036854775808 ≤ (a : Int) + (b : Int) by omega) (show (a : Int) + (b : Int) < 9223372036854775808 by omega)).trans (by show (a : Int) + (b : Int) = _; omega)
theorem wsucc {a : Nat} (h : a < 1000000) : wrapA IntKind.i64 (Int.add (a : Int) 1) = ((a + 1 : Nat) : Int) :=
  (wrapA_i64 (show -9223372036854775808 ≤ (a : Int) + 1 by omega) (show (a : Int) + 1 < 9223372036854775808 by omega)).trans (by show (a : Int) + 1 = _; omega)
theorem ten15 {n : Nat} (h : n ≤ 15) : (10 : Int) ^ n ≤ 1000000000000000 := by
  have h1 := Nat.pow_le_pow_right (show 0 < 10 by omega) h
  have h2 : (((10 ^ n : Nat)) : Int) ≤ ((10 ^ 15 : Nat) : Int) := Int.ofNat_le.2 h1
  have h3 : ((10 ^ 15 : Nat) : Int) = 1000000000000000 := by decide
  rw [h3] at h2
  have h4 : ((10 ^ n : Nat) : Int) = (10 : Int) ^ n := by simp
  omega
noncomputable abbrev s19 : List KSpec := [(45, zeroS), (36, normS)]
theorem inner {x0 : Int} {x1 : Int} {x2 : Int} {x3 : Int} {x4 : Int} {x6 : Bool} {x7 : Bool} {x11 : Int} {x12 : Int} {x14 : Int} {x15 : Int} {x16 : Int} {x17 : Int} {x : Int} {i : Nat} (hx : 0 ≤ x) (hi : i ≤ 14) : ∀ (n : Nat) (z : Int) (k : Nat) (b : Int) (D : Nat → Int) (t : Tr Value) (f : Nat), 0 ≤ z → z < 10 ^ n → k + n ≤ 15 → Ro 40 t D → (∀ j, j < 40 → 0 ≤ D j ∧ D j ≤ b) → b + 81 * n ≤ 1000000 → n < f →
    ∃ z' k' t' D' tp, (ltow Tryd.prog (fiAt fis 19) (kcall s19) none f).lp (codeAt (code 19) [1, 1, 1, 1, 1, 1, 0, 1, 0, 0, 1, 0, 0, 1, 0, 1, 0, 0]) (st19_13_0 x0 x1 x2 x3 x4 z x6 x7 ((k : Nat) : Int) x ((i : Nat) : Int) x11 x12 t x14 x15 x16 x17) = some (.exit 2, ex19_1 x0 x1 x2 x3 x4 z' x6 x7 k' x ((i : Nat) : Int) x11 x12 t' x14 x15 x16 x17 tp) ∧
      Ro 40 t' D' ∧ Hn D' 0 40 = Hn D 0 40 + x.tmod 10 * z * 10 ^ (i + k) ∧ ∀ j, j < 40 → 0 ≤ D' j ∧ D' j ≤ b + 81 * n := by
  intro n
  induction n with
  | zero =>
    intro z k b D t f z0 z1 hk hR hb hB hf
    obtain ⟨f, rfl⟩ : ∃ g, f = g + 1 := ⟨f - 1, by omega⟩
    rw [Int.pow_zero] at z1
    obtain rfl : z = 0 := by omega
    rw [← ob_id ((ltow ..).lp _ _), lp_round, R19_13_0, ite2_neg (show gtI 0 0 = false from by rw [gtI_dec]; rfl)]
    exact ⟨_, _, _, _, _, rfl, hR, by simp, fun j hj => by have := hb j hj; omega⟩
  | succ n ih =>
    intro z k b D t f z0 z1 hk hR hb hB hf
    obtain ⟨f, rfl⟩ : ∃ g, f = g + 1 := ⟨f - 1, by omega⟩
    rw [← ob_id ((ltow ..).lp _ _), lp_round, R19_13_0]
    by_cases hz : 0 < z
    · rw [ite2_pos (show gtI z 0 = true from by rw [gtI_dec]; exact decide_eq_true hz)]
      have e1 : wrapA IntKind.i64 (Int.add (i : Int) (k : Int)) = ((i + k : Nat) : Int) := wadd (by omega)
      have hik : i + k < 40 := by omega
      have c0 : x.tmod 10 = x % 10 := Int.tmod_eq_emod_of_nonneg hx
      have c1 : z.tmod 10 = z % 10 := Int.tmod_eq_emod_of_nonneg z0
      have c2 : z.tdiv 10 = z / 10 := Int.tdiv_eq_ediv_of_nonneg z0
      have p0 : 0 ≤ x % 10 * (z % 10) := Int.mul_nonneg (by omega) (by omega)
      have p1 : x % 10 * (z % 10) ≤ 9 * 9 := Int.mul_le_mul (by omega) (by omega) (by omega) (by omega)
      have hbk := hb _ hik
      have e2 : wrapA IntKind.i64 (Int.mul (x % 10) (z % 10)) = x % 10 * (z % 10) := wrapA_i64 (show _ ≤ x % 10 * (z % 10) by omega) (show x % 10 * (z % 10) < _ by omega)
      have e3 : wrapA IntKind.i64 (Int.add (D (i + k)) (x % 10 * (z % 10))) = D (i + k) + x % 10 * (z % 10) := wrapA_i64 (show _ ≤ D (i + k) + x % 10 * (z % 10) by omega) (show D (i + k) + x % 10 * (z % 10) < _ by omega)
      have e4 : wrapA IntKind.i64 (z / 10) = z / 10 := wrapA_i64 (by omega) (by
        have : z < 1000000000000000 := Int.lt_of_lt_of_le z1 (ten15 (by omega))
        omega)
      have e5 : wrapA IntKind.i64 (Int.add (k : Int) 1) = ((k + 1 : Nat) : Int) := wsucc (by omega)
      rw [e1, lt_nat hik, idx1, ite2_pos (ble_t' hik), hR _ hik, ob_of, lt_nat hik, idx1, ite2_pos (show Nat.ble (Nat.add (i + k) 1) 40 = true from ble_t' hik), c0, c1, c2, e2, e3, e4, e5, ob_id]
      have z2 : z / 10 < 10 ^ n := by rw [Int.pow_succ] at z1; omega
      obtain ⟨z', k', t', D', tp, h1, h2, h3, h4⟩ := ih (z / 10) (k + 1) (b + 81) (upd D (i + k) (D (i + k) + x % 10 * (z % 10))) _ f (by omega) z2 (by omega) (hR.set (by omega) hik _) (fun j hj => by
        unfold upd
        have := hb j hj
        split
        · rename_i e; subst e; omega
        · omega) (by rw [Int.natCast_succ] at hB; omega) (by omega)
      refine ⟨z', k', t', D', tp, h1, h2, ?_, fun j hj => by have := h4 j hj; rw [Int.natCast_succ]; omega⟩
      rw [h3, Hn_upd D (i + k) _ 40 0 (by omega) (by omega), c0, Nat.sub_zero, show i + (k + 1) = (i + k) + 1 by omega, Int.pow_succ]
      have hz2 : x % 10 * z = x % 10 * (z % 10) + 10 * (x % 10 * (z / 10)) := by
        have : z = z % 10 + 10 * (z / 10) := by omega
        conv => lhs; rw [this]
        rw [Int.mul_add, Int.mul_left_comm]
      rw [hz2, Int.add_mul, Int.mul_assoc 10, ← Int.mul_assoc _ _ 10, show D (i + k) + x % 10 * (z % 10) - D (i + k) = x % 10 * (z % 10) by omega]
      omega
    · obtain rfl : z = 0 := by omega
      rw [ite2_neg (show gtI 0 0 = false from by rw [gtI_dec]; rfl)]
      exact ⟨_, _, _, _, _, rfl, hR, by simp, fun j hj => by have := hb j hj; omega⟩
theorem outer {x0 : Int} {x1 : Int} {x2 : Int} {x3 : Int} {x6 : Bool} {x7 : Bool} {x11 : Int} {x12 : Int} {x14 : Int} {x15 : Int} {x16 : Int} {x17 : Int} {y : Int} (y0 : 0 ≤ y) (y1 : y < 10 ^ 15) : ∀ (n : Nat) (x z k b : Int) (i : Nat) (D : Nat → Int) (t : Tr Value) (f : Nat), 0 ≤ x → x < 10 ^ n → i + n ≤ 15 → Ro 40 t D → (∀ j, j < 40 → 0 ≤ D j ∧ D j ≤ b) → b + 1215 * n ≤ 900000 → n + 16 < f →
    ∃ z' k' i' t' D' tp, (ltow Tryd.prog (fiAt fis 19) (kcall s19) none f).lp (codeAt (code 19) [1, 1, 1, 1, 1, 1, 0, 1, 0, 0]) (st19_9_1 x0 x1 x2 x3 y z x6 x7 k x ((i : Nat) : Int) x11 x12 t x14 x15 x16 x17) = some (.exit 0, ex19_1 x0 x1 x2 x3 y z' x6 x7 k' 0 i' x11 x12 t' x14 x15 x16 x17 tp) ∧
      Ro 40 t' D' ∧ Hn D' 0 40 = Hn D 0 40 + x * y * 10 ^ i ∧ ∀ j, j < 40 → 0 ≤ D' j ∧ D' j ≤ b + 1215 * n := by
  intro n
  induction n with
  | zero =>
    intro x z k b i D t f x0 x1 hi hR hb hB hf
    obtain ⟨f, rfl⟩ : ∃ g, f = g + 1 := ⟨f - 1, by omega⟩
    rw [Int.pow_zero] at x1
    obtain rfl : x = 0 := by omega
    rw [← ob_id ((ltow ..).lp _ _), lp_round, R19_9_1, ite2_neg (show gtI 0 0 = false from by rw [gtI_dec]; rfl)]
    exact ⟨_, _, _, _, _, _, rfl, hR, by simp, fun j hj => by have := hb j hj; omega⟩
  | succ n ih =>
    intro x z k b i D t f x0 x1 hi hR hb hB hf
    obtain ⟨f, rfl⟩ : ∃ g, f = g + 1 := ⟨f - 1, by omega⟩
    rw [← ob_id ((ltow ..).lp _ _), lp_round, R19_9_1]
    by_cases hx : 0 < x
    · rw [ite2_pos (show gtI x 0 = true from by rw [gtI_dec]; exact decide_eq_true hx)]
      obtain ⟨z', k', t', D', tp, h1, h2, h3, h4⟩ := inner (x := x) (i := i) x0 (by omega) 15 y 0 b D t f y0 y1 (by omega) hR hb (by rw [Int.natCast_succ] at hB; omega) (by omega)
      rw [show (0 : Int) = ((0 : Nat) : Int) from rfl, h1, ob_of]
      have c2 : x.tdiv 10 = x / 10 := Int.tdiv_eq_ediv_of_nonneg x0
      have c0 : x.tmod 10 = x % 10 := Int.tmod_eq_emod_of_nonneg x0
      have e4 : wrapA IntKind.i64 (x.tdiv 10) = x / 10 := by
        rw [c2]
        refine wrapA_i64 (by omega) ?_
        have : x < 1000000000000000 := Int.lt_of_lt_of_le x1 (ten15 (by omega))
        omega
      have e5 : wrapA IntKind.i64 (Int.add (i : Int) 1) = ((i + 1 : Nat) : Int) := wsucc (by omega)
      have x2 : x / 10 < 10 ^ n := by rw [Int.pow_succ] at x1; omega
      obtain ⟨z2, k2, i2, t2, D2, tp2, g1, g2, g3, g4⟩ := ih (x / 10) z' k' (b + 1215) (i + 1) D' t' f (by omega) x2 (by omega) h2 (fun j hj => by have := h4 j hj; omega) (by rw [Int.natCast_succ] at hB; omega) (by omega)
      refine ⟨z2, k2, i2, t2, D2, tp2, ?_, g2, ?_, fun j hj => by have := g4 j hj; rw [Int.natCast_succ]; omega⟩
      · refine (C19_1_0 _ _ _ _ _ _ _ _ _ _ _ _ _ _ _ _ _ _ tp _ _).trans ?_
        rw [e4, e5, ob_id]; exact g1
      · rw [g3, h3, c0, Nat.add_zero, Int.pow_succ]
        have hx2 : x * y = x % 10 * y + 10 * (x / 10 * y) := by
          have : x = x % 10 + 10 * (x / 10) := by omega
          conv => lhs; rw [this]
          rw [Int.add_mul, Int.mul_assoc]
        rw [hx2, Int.add_mul, Int.mul_assoc 10, ← Int.mul_assoc _ _ 10]
        omega
    · obtain rfl : x = 0 := by omega
      rw [ite2_neg (show gtI 0 0 = false from by rw [gtI_dec]; rfl)]
      exact ⟨_, _, _, _, _, _, rfl, hR, by simp, fun j hj => by have := hb j hj; omega⟩

end
end Go.Proofs.YtpnjbagpplodjaaDoor
