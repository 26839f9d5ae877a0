/- Products by the reference. -/
import Derived.Test.YtpnjbagpplodjaaDoorDeT
namespace Go.Proofs.YtpnjbagpplodjaaDoor
open Go.RowKit Go.Am
set_option maxRecDepth 1000000
set_option linter.unusedSimpArgs false
set_option linter.unusedVariables false
noncomputable section
theorem intsOf_some : ∀ {l : List Value} {d : List Int}, intsOf l = some d → l = d.map (Value.int .i64) := by
  intro l
  induction l with
  | nil => intro d h; obtain rfl := Option.some.inj (show some [] = some d from h); rfl
  | cons v l ih =>
    intro d h
    obtain ⟨p, hp, h⟩ := ob_some (show ob (asInt? v) (fun p => bt (ikEq .i64 p.1) (ob (intsOf l) fun r => some (p.2 :: r))) = some d from h)
    obtain ⟨hk, h⟩ := bt_some h
    obtain ⟨r, hr, h⟩ := ob_some h
    obtain rfl := Option.some.inj h
    obtain ⟨k, x⟩ := p
    have e : v = .int k x := by
      cases v <;> first | (cases hp; rfl) | cases hp
    have ek : k = .i64 := by cases k <;> first | rfl | cases hk
    rw [e, ek, ih hr]; rfl
theorem ag1_some {l : List Value} {p : List Value × Int} (h : ag1 l = some p) : l = [.agg ⟨p.1⟩, .int .i64 p.2] := by
  unfold ag1 at h; split at h
  · obtain rfl := Option.some.inj h; rfl
  · cases h
theorem zer_end {d : List Int} (h : d.length = 40) {i : Nat} (hi : 40 ≤ i) : Sp.zer d (i : Int) = true := by
  unfold Sp.zer; rw [Int.toNat_natCast, List.drop_eq_nil_of_le (by omega)]; rfl
theorem zer_step {d : List Int} {i : Nat} (hi : i < d.length) : Sp.zer d (i : Int) = (decide (d[i] = 0) && Sp.zer d ((i + 1 : Nat) : Int)) := by
  unfold Sp.zer; rw [Int.toNat_natCast, Int.toNat_natCast, List.drop_eq_getElem_cons hi]; rfl
theorem zero_loop {a : Array Value} {x1 : Int} {t : Tr Value} {d : List Int} (hd : d.length = 40) (hR : Ro 40 t fun j => d[j]?.getD 0) : ∀ (n i f : Nat), i + n = 40 → n < f →
    ∃ (e : Ex) (b : Int) (tp : Al), (ltow Tryd.prog (fiAt fis 45) (kcall []) none f).lp (codeAt (code 45) [1, 0, 1, 0, 0]) (st45_2_0 a x1 (i : Int) false t) = some (e, ex45_0 a x1 b false t tp) ∧ ((e = .exit 0 ∧ Sp.zer d (i : Int) = true) ∨ (e = .ret ∧ Sp.zer d (i : Int) = false)) := by
  intro n
  induction n with
  | zero =>
    intro i f hi hf
    obtain ⟨f, rfl⟩ : ∃ g, f = g + 1 := ⟨f - 1, by omega⟩
    obtain rfl : i = 40 := by omega
    rw [← ob_id ((ltow ..).lp _ _), lp_round, R45_2_0, ite2_neg (show ltI ((40 : Nat) : Int) 40 = false from rfl)]
    exact ⟨_, _, _, rfl, .inl ⟨rfl, zer_end hd (Nat.le_refl _)⟩⟩
  | succ n ih =>
    intro i f hi hf
    obtain ⟨f, rfl⟩ : ∃ g, f = g + 1 := ⟨f - 1, by omega⟩
    have hi0 : i < 40 := by omega
    have hg : (fun j : Nat => d[j]?.getD 0) i = d[i]'(by omega) := by show d[i]?.getD 0 = _; rw [List.getElem?_eq_getElem (by omega)]; rfl
    rw [← ob_id ((ltow ..).lp _ _), lp_round, R45_2_0, ite2_pos (show ltI (i : Int) 40 = true from by rw [ltI_eq]; exact decide_eq_true (by omega)), lt_nat hi0, idx1, ite2_pos (ble_t' hi0), hR _ hi0, ob_of, hg, neI_dec]
    by_cases hz : d[i]'(by omega) = 0
    · rw [ite2_neg (by simp [hz]), wsucc (by omega), ob_id]
      obtain ⟨e, b, tp, h1, h2⟩ := ih (i + 1) f (by omega) (by omega)
      refine ⟨e, b, tp, h1, ?_⟩
      rw [zer_step (show i < d.length by omega), decide_eq_true hz, Bool.true_and]; exact h2
    · rw [ite2_pos (by simp [hz])]
      refine ⟨_, _, _, rfl, .inr ⟨rfl, ?_⟩⟩
      rw [zer_step (show i < d.length by omega), decide_eq_false hz, Bool.false_and]
theorem cons_of {d : List Int} {n : Nat} (h : d.length = n + 1) : ∃ x r, d = x :: r ∧ r.length = n := by
  cases d with
  | nil => cases h
  | cons x r => exact ⟨x, r, rfl, Nat.succ.inj h⟩
theorem list40 {d : List Int} (h : d.length = 40) : ∃ x0 x1 x2 x3 x4 x5 x6 x7 x8 x9 x10 x11 x12 x13 x14 x15 x16 x17 x18 x19 x20 x21 x22 x23 x24 x25 x26 x27 x28 x29 x30 x31 x32 x33 x34 x35 x36 x37 x38 x39, d = [x0, x1, x2, x3, x4, x5, x6, x7, x8, x9, x10, x11, x12, x13, x14, x15, x16, x17, x18, x19, x20, x21, x22, x23, x24, x25, x26, x27, x28, x29, x30, x31, x32, x33, x34, x35, x36, x37, x38, x39] := by
  obtain ⟨x0, d0, e0, h0⟩ := cons_of h
  obtain ⟨x1, d1, e1, h1⟩ := cons_of h0
  obtain ⟨x2, d2, e2, h2⟩ := cons_of h1
  obtain ⟨x3, d3, e3, h3⟩ := cons_of h2
  obtain ⟨x4, d4, e4, h4⟩ := cons_of h3
  obtain ⟨x5, d5, e5, h5⟩ := cons_of h4
  obtain ⟨x6, d6, e6, h6⟩ := cons_of h5
  obtain ⟨x7, d7, e7, h7⟩ := cons_of h6
  obtain ⟨x8, d8, e8, h8⟩ := cons_of h7
  obtain ⟨x9, d9, e9, h9⟩ := cons_of h8
  obtain ⟨x10, d10, e10, h10⟩ := cons_of h9
  obtain ⟨x11, d11, e11, h11⟩ := cons_of h10
  obtain ⟨x12, d12, e12, h12⟩ := cons_of h11
  obtain ⟨x13, d13, e13, h13⟩ := cons_of h12
  obtain ⟨x14, d14, e14, h14⟩ := cons_of h13
  obtain ⟨x15, d15, e15, h15⟩ := cons_of h14
  obtain ⟨x16, d16, e16, h16⟩ := cons_of h15
  obtain ⟨x17, d17, e17, h17⟩ := cons_of h16
  obtain ⟨x18, d18, e18, h18⟩ := cons_of h17
  obtain ⟨x19, d19, e19, h19⟩ := cons_of h18
  obtain ⟨x20, d20, e20, h20⟩ := cons_of h19
  obtain ⟨x21, d21, e21, h21⟩ := cons_of h20
  obtain ⟨x22, d22, e22, h22⟩ := cons_of h21
  obtain ⟨x23, d23, e23, h23⟩ := cons_of h22
  obtain ⟨x24, d24, e24, h24⟩ := cons_of h23
  obtain ⟨x25, d25, e25, h25⟩ := cons_of h24
  obtain ⟨x26, d26, e26, h26⟩ := cons_of h25
  obtain ⟨x27, d27, e27, h27⟩ := cons_of h26
  obtain ⟨x28, d28, e28, h28⟩ := cons_of h27
  obtain ⟨x29, d29, e29, h29⟩ := cons_of h28
  obtain ⟨x30, d30, e30, h30⟩ := cons_of h29
  obtain ⟨x31, d31, e31, h31⟩ := cons_of h30
  obtain ⟨x32, d32, e32, h32⟩ := cons_of h31
  obtain ⟨x33, d33, e33, h33⟩ := cons_of h32
  obtain ⟨x34, d34, e34, h34⟩ := cons_of h33
  obtain ⟨x35, d35, e35, h35⟩ := cons_of h34
  obtain ⟨x36, d36, e36, h36⟩ := cons_of h35
  obtain ⟨x37, d37, e37, h37⟩ := cons_of h36
  obtain ⟨x38, d38, e38, h38⟩ := cons_of h37
  obtain ⟨x39, d39, e39, h39⟩ := cons_of h38
  have e40 : d39 = [] := List.length_eq_zero_iff.1 h39
  exact ⟨x0, x1, x2, x3, x4, x5, x6, x7, x8, x9, x10, x11, x12, x13, x14, x15, x16, x17, x18, x19, x20, x21, x22, x23, x24, x25, x26, x27, x28, x29, x30, x31, x32, x33, x34, x35, x36, x37, x38, x39, by rw [e0, e1, e2, e3, e4, e5, e6, e7, e8, e9, e10, e11, e12, e13, e14, e15, e16, e17, e18, e19, e20, e21, e22, e23, e24, e25, e26, e27, e28, e29, e30, e31, e32, e33, e34, e35, e36, e37, e38, e39, e40]⟩
theorem ro40 (x0 x1 x2 x3 x4 x5 x6 x7 x8 x9 x10 x11 x12 x13 x14 x15 x16 x17 x18 x19 x20 x21 x22 x23 x24 x25 x26 x27 x28 x29 x30 x31 x32 x33 x34 x35 x36 x37 x38 x39 : Int) : Ro 40 (Tr.nd (some (Value.int IntKind.i64 x0)) (Tr.nd (some (Value.int IntKind.i64 x1)) (Tr.nd (some (Value.int IntKind.i64 x3)) (Tr.nd (some (Value.int IntKind.i64 x7)) (Tr.nd (some (Value.int IntKind.i64 x15)) (Tr.nd (some (Value.int IntKind.i64 x31)) (Tr.e) (Tr.e)) (Tr.e)) (Tr.nd (some (Value.int IntKind.i64 x23)) (Tr.nd (some (Value.int IntKind.i64 x39)) (Tr.e) (Tr.e)) (Tr.e))) (Tr.nd (some (Value.int IntKind.i64 x11)) (Tr.nd (some (Value.int IntKind.i64 x19)) (Tr.nd (some (Value.int IntKind.i64 x35)) (Tr.e) (Tr.e)) (Tr.e)) (Tr.nd (some (Value.int IntKind.i64 x27)) (Tr.e) (Tr.e)))) (Tr.nd (some (Value.int IntKind.i64 x5)) (Tr.nd (some (Value.int IntKind.i64 x9)) (Tr.nd (some (Value.int IntKind.i64 x17)) (Tr.nd (some (Value.int IntKind.i64 x33)) (Tr.e) (Tr.e)) (Tr.e)) (Tr.nd (some (Value.int IntKind.i64 x25)) (Tr.e) (Tr.e))) (Tr.nd (some (Value.int IntKind.i64 x13)) (Tr.nd (some (Value.int IntKind.i64 x21)) (Tr.nd (some (Value.int IntKind.i64 x37)) (Tr.e) (Tr.e)) (Tr.e)) (Tr.nd (some (Value.int IntKind.i64 x29)) (Tr.e) (Tr.e))))) (Tr.nd (some (Value.int IntKind.i64 x2)) (Tr.nd (some (Value.int IntKind.i64 x4)) (Tr.nd (some (Value.int IntKind.i64 x8)) (Tr.nd (some (Value.int IntKind.i64 x16)) (Tr.nd (some (Value.int IntKind.i64 x32)) (Tr.e) (Tr.e)) (Tr.e)) (Tr.nd (some (Value.int IntKind.i64 x24)) (Tr.e) (Tr.e))) (Tr.nd (some (Value.int IntKind.i64 x12)) (Tr.nd (some (Value.int IntKind.i64 x20)) (Tr.nd (some (Value.int IntKind.i64 x36)) (Tr.e) (Tr.e)) (Tr.e)) (Tr.nd (some (Value.int IntKind.i64 x28)) (Tr.e) (Tr.e)))) (Tr.nd (some (Value.int IntKind.i64 x6)) (Tr.nd (some (Value.int IntKind.i64 x10)) (Tr.nd (some (Value.int IntKind.i64 x18)) (Tr.nd (some (Value.int IntKind.i64 x34)) (Tr.e) (Tr.e)) (Tr.e)) (Tr.nd (some (Value.int IntKind.i64 x26)) (Tr.e) (Tr.e))) (Tr.nd (some (Value.int IntKind.i64 x14)) (Tr.nd (some (Value.int IntKind.i64 x22)) (Tr.nd (some (Value.int IntKind.i64 x38)) (Tr.e) (Tr.e)) (Tr.e)) (Tr.nd (some (Value.int IntKind.i64 x30)) (Tr.e) (Tr.e)))))) fun j => [x0, x1, x2, x3, x4, x5, x6, x7, x8, x9, x10, x11, x12, x13, x14, x15, x16, x17, x18, x19, x20, x21, x22, x23, x24, x25, x26, x27, x28, x29, x30, x31, x32, x33, x34, x35, x36, x37, x38, x39][j]?.getD 0 := by
  intro j hj
  match j, hj with
  | 0, _ => rfl
  | 1, _ => rfl
  | 2, _ => rfl
  | 3, _ => rfl
  | 4, _ => rfl
  | 5, _ => rfl
  | 6, _ => rfl
  | 7, _ => rfl
  | 8, _ => rfl
  | 9, _ => rfl
  | 10, _ => rfl
  | 11, _ => rfl
  | 12, _ => rfl
  | 13, _ => rfl
  | 14, _ => rfl
  | 15, _ => rfl
  | 16, _ => rfl
  | 17, _ => rfl
  | 18, _ => rfl
  | 19, _ => rfl
  | 20, _ => rfl
  | 21, _ => rfl
  | 22, _ => rfl
  | 23, _ => rfl
  | 24, _ => rfl
  | 25, _ => rfl
  | 26, _ => rfl
  | 27, _ => rfl
  | 28, _ => rfl
  | 29, _ => rfl
  | 30, _ => rfl
  | 31, _ => rfl
  | 32, _ => rfl
  | 33, _ => rfl
  | 34, _ => rfl
  | 35, _ => rfl
  | 36, _ => rfl
  | 37, _ => rfl
  | 38, _ => rfl
  | 39, _ => rfl
  | n + 40, h => exact absurd h (by omega)
theorem zero_h : Holds Tryd.prog (45, zeroS) := holds_of_K masks (s := []) (fun _ h => by cases h) none Tryd.func45 (by kernel_rfl) (c := code 45) (by kernel_rfl) (rs := res 45) (by kernel_rfl) (by kernel_rfl) fun args v hG => by
  obtain ⟨⟨a, i⟩, h1, h⟩ := ob_some hG
  obtain ⟨d, hd, h⟩ := ob_some h
  obtain ⟨hp, rfl⟩ := Prod.mk.inj (Option.some.inj h)
  rw [ag1_some h1, intsOf_some hd]
  have hp' : d.length = 40 ∧ 0 ≤ i ∧ i < 1000 := of_decide_eq_true hp
  obtain ⟨hl, i0, i1⟩ := hp'
  obtain ⟨x0, x1, x2, x3, x4, x5, x6, x7, x8, x9, x10, x11, x12, x13, x14, x15, x16, x17, x18, x19, x20, x21, x22, x23, x24, x25, x26, x27, x28, x29, x30, x31, x32, x33, x34, x35, x36, x37, x38, x39, rfl⟩ := list40 hl
  refine ⟨rfl, rfl, rfl, 41, (K45 x0 x1 x2 x3 x4 x5 x6 x7 x8 x9 x10 x11 x12 x13 x14 x15 x16 x17 x18 x19 x20 x21 x22 x23 x24 x25 x26 x27 x28 x29 x30 x31 x32 x33 x34 x35 x36 x37 x38 x39 i _ _).trans ?_⟩
  by_cases h40 : i < 40
  · obtain ⟨i, rfl⟩ : ∃ n : Nat, i = n := ⟨i.toNat, by omega⟩
    obtain ⟨e, b, tp, h1, h2⟩ := zero_loop (a := ⟨[Value.int .i64 x0, Value.int .i64 x1, Value.int .i64 x2, Value.int .i64 x3, Value.int .i64 x4, Value.int .i64 x5, Value.int .i64 x6, Value.int .i64 x7, Value.int .i64 x8, Value.int .i64 x9, Value.int .i64 x10, Value.int .i64 x11, Value.int .i64 x12, Value.int .i64 x13, Value.int .i64 x14, Value.int .i64 x15, Value.int .i64 x16, Value.int .i64 x17, Value.int .i64 x18, Value.int .i64 x19, Value.int .i64 x20, Value.int .i64 x21, Value.int .i64 x22, Value.int .i64 x23, Value.int .i64 x24, Value.int .i64 x25, Value.int .i64 x26, Value.int .i64 x27, Value.int .i64 x28, Value.int .i64 x29, Value.int .i64 x30, Value.int .i64 x31, Value.int .i64 x32, Value.int .i64 x33, Value.int .i64 x34, Value.int .i64 x35, Value.int .i64 x36, Value.int .i64 x37, Value.int .i64 x38, Value.int .i64 x39]⟩) (x1 := (i : Int)) hl (ro40 x0 x1 x2 x3 x4 x5 x6 x7 x8 x9 x10 x11 x12 x13 x14 x15 x16 x17 x18 x19 x20 x21 x22 x23 x24 x25 x26 x27 x28 x29 x30 x31 x32 x33 x34 x35 x36 x37 x38 x39) (40 - i) i 41 (by omega) (by omega)
    rw [show masks.l = fis from rfl, h1, ob_of]
    rcases h2 with ⟨rfl, hz⟩ | ⟨rfl, hz⟩
    · rw [hz]; exact C45_0_0 _ _ _ _ _ _ _ _
    · rw [hz]; exact C45_0_1 _ _ _ _ _ _ _ _
  · rw [← ob_id ((ltow ..).lp _ _), lp_round, show masks.l = fis from rfl, R45_2_0, ite2_neg (show ltI i 40 = false from by rw [ltI_eq]; exact decide_eq_false h40), ob_of]
    obtain ⟨i, rfl⟩ : ∃ n : Nat, i = n := ⟨i.toNat, by omega⟩
    have hz : Sp.zer [x0, x1, x2, x3, x4, x5, x6, x7, x8, x9, x10, x11, x12, x13, x14, x15, x16, x17, x18, x19, x20, x21, x22, x23, x24, x25, x26, x27, x28, x29, x30, x31, x32, x33, x34, x35, x36, x37, x38, x39] (i : Int) = true := zer_end rfl (by omega)
    rw [hz]
    exact C45_0_0 _ _ _ _ _ _ _ _
theorem ro0 : Ro 40 (Tr.nd (some (Value.int IntKind.i64 (0 : Int))) (Tr.nd (some (Value.int IntKind.i64 (0 : Int))) (Tr.nd (some (Value.int IntKind.i64 (0 : Int))) (Tr.nd (some (Value.int IntKind.i64 (0 : Int))) (Tr.nd (some (Value.int IntKind.i64 (0 : Int))) (Tr.nd (some (Value.int IntKind.i64 (0 : Int))) (Tr.e) (Tr.e)) (Tr.e)) (Tr.nd (some (Value.int IntKind.i64 (0 : Int))) (Tr.nd (some (Value.int IntKind.i64 (0 : Int))) (Tr.e) (Tr.e)) (Tr.e))) (Tr.nd (some (Value.int IntKind.i64 (0 : Int))) (Tr.nd (some (Value.int IntKind.i64 (0 : Int))) (Tr.nd (some (Value.int IntKind.i64 (0 : Int))) (Tr.e) (Tr.e)) (Tr.e)) (Tr.nd (some (Value.int IntKind.i64 (0 : Int))) (Tr.e) (Tr.e)))) (Tr.nd (some (Value.int IntKind.i64 (0 : Int))) (Tr.nd (some (Value.int IntKind.i64 (0 : Int))) (Tr.nd (some (Value.int IntKind.i64 (0 : Int))) (Tr.nd (some (Value.int IntKind.i64 (0 : Int))) (Tr.e) (Tr.e)) (Tr.e)) (Tr.nd (some (Value.int IntKind.i64 (0 : Int))) (Tr.e) (Tr.e))) (Tr.nd (some (Value.int IntKind.i64 (0 : Int))) (Tr.nd (some (Value.int IntKind.i64 (0 : Int))) (Tr.nd (some (Value.int IntKind.i64 (0 : Int))) (Tr.e) (Tr.e)) (Tr.e)) (Tr.nd (some (Value.int IntKind.i64 (0 : Int))) (Tr.e) (Tr.e))))) (Tr.nd (some (Value.int IntKind.i64 (0 : Int))) (Tr.nd (some (Value.int IntKind.i64 (0 : Int))) (Tr.nd (some (Value.int IntKind.i64 (0 : Int))) (Tr.nd (some (Value.int IntKind.i64 (0 : Int))) (Tr.nd (some (Value.int IntKind.i64 (0 : Int))) (Tr.e) (Tr.e)) (Tr.e)) (Tr.nd (some (Value.int IntKind.i64 (0 : Int))) (Tr.e) (Tr.e))) (Tr.nd (some (Value.int IntKind.i64 (0 : Int))) (Tr.nd (some (Value.int IntKind.i64 (0 : Int))) (Tr.nd (some (Value.int IntKind.i64 (0 : Int))) (Tr.e) (Tr.e)) (Tr.e)) (Tr.nd (some (Value.int IntKind.i64 (0 : Int))) (Tr.e) (Tr.e)))) (Tr.nd (some (Value.int IntKind.i64 (0 : Int))) (Tr.nd (some (Value.int IntKind.i64 (0 : Int))) (Tr.nd (some (Value.int IntKind.i64 (0 : Int))) (Tr.nd (some (Value.int IntKind.i64 (0 : Int))) (Tr.e) (Tr.e)) (Tr.e)) (Tr.nd (some (Value.int IntKind.i64 (0 : Int))) (Tr.e) (Tr.e))) (Tr.nd (some (Value.int IntKind.i64 (0 : Int))) (Tr.nd (some (Value.int IntKind.i64 (0 : Int))) (Tr.nd (some (Value.int IntKind.i64 (0 : Int))) (Tr.e) (Tr.e)) (Tr.e)) (Tr.nd (some (Value.int IntKind.i64 (0 : Int))) (Tr.e) (Tr.e)))))) fun _ => 0 := by
  intro j hj
  match j, hj with
  | 0, _ => rfl
  | 1, _ => rfl
  | 2, _ => rfl
  | 3, _ => rfl
  | 4, _ => rfl
  | 5, _ => rfl
  | 6, _ => rfl
  | 7, _ => rfl
  | 8, _ => rfl
  | 9, _ => rfl
  | 10, _ => rfl
  | 11, _ => rfl
  | 12, _ => rfl
  | 13, _ => rfl
  | 14, _ => rfl
  | 15, _ => rfl
  | 16, _ => rfl
  | 17, _ => rfl
  | 18, _ => rfl
  | 19, _ => rfl
  | 20, _ => rfl
  | 21, _ => rfl
  | 22, _ => rfl
  | 23, _ => rfl
  | 24, _ => rfl
  | 25, _ => rfl
  | 26, _ => rfl
  | 27, _ => rfl
  | 28, _ => rfl
  | 29, _ => rfl
  | 30, _ => rfl
  | 31, _ => rfl
  | 32, _ => rfl
  | 33, _ => rfl
  | 34, _ => rfl
  | 35, _ => rfl
  | 36, _ => rfl
  | 37, _ => rfl
  | 38, _ => rfl
  | 39, _ => rfl
  | n + 40, h => exact absurd h (by omega)
theorem Hn0 : Hn (fun _ => 0) 0 40 = 0 := (Hn_all0 _ 40 0 fun _ _ _ => Int.le_refl 0).2 fun _ _ _ => rfl
theorem rmul_loop {m s n t x y : Int} {c : Bool} {tr : Tr Value} (s0 : 0 ≤ s) (s1 : s ≤ 6) (t0 : 0 ≤ t) (t1 : t ≤ 6) (x0 : 0 ≤ x) (x1 : x < 10 ^ 15) (y0 : 0 ≤ y) (y1 : y < 10 ^ 15) (hR : Ro 40 tr fun _ => 0) {f : Nat} (hf : 60 ≤ f) :
    ob ((ltow Tryd.prog (fiAt fis 19) (kcall s19) none (f + 1)).lp (codeAt (code 19) [1, 1, 1, 1, 1, 1, 0, 1, 0, 0]) (st19_9_0 m s n t y false c x 0 n t tr 0 0 m s)) (fun r => (contAt Tryd.prog (fiAt fis 19) (kcallK [(45, zeroS), (36, normS)]) (kcall [(45, zeroS), (36, normS)]) (ltow Tryd.prog (fiAt fis 19) (kcall s19) none (f + 1)).lp (ltow Tryd.prog (fiAt fis 19) (kcall s19) none (f + 1)).gs (code 19) [1, 1, 1, 1, 1, 1, 0, 1, 0] (retK Tryd.prog (fiAt fis 19) (res 19))) r.1 r.2) = some (decRes (Sp.sg c (x * y)) (s + t)) := by
  have e15 : (10 : Int) ^ 15 = 1000000000000000 := by decide
  have e14 : (10 : Int) ^ 14 = 100000000000000 := by decide
  by_cases hx : 0 < x
  · obtain ⟨z', k', t', D', tp, h1, h2, h3, h4⟩ := inner (x0 := m) (x1 := s) (x2 := n) (x3 := t) (x4 := y) (x6 := false) (x7 := c) (x11 := n) (x12 := t) (x14 := 0) (x15 := 0) (x16 := m) (x17 := s) (x := x) (i := 0) x0 (by omega) 15 y 0 0 (fun _ => 0) tr f y0 y1 (by omega) hR (fun _ _ => ⟨Int.le_refl 0, Int.le_refl 0⟩) (by omega) (by omega)
    obtain ⟨z2, k2, i2, t2, D2, tp2, g1, g2, g3, g4⟩ := outer (x0 := m) (x1 := s) (x2 := n) (x3 := t) (x6 := false) (x7 := c) (x11 := n) (x12 := t) (x14 := 0) (x15 := 0) (x16 := m) (x17 := s) y0 y1 14 (x / 10) z' k' 1215 1 D' t' f (by omega) (by omega) (by omega) h2 (fun j hj => by have := h4 j hj; omega) (by omega) (by omega)
    have hl : (ltow Tryd.prog (fiAt fis 19) (kcall s19) none (f + 1)).lp (codeAt (code 19) [1, 1, 1, 1, 1, 1, 0, 1, 0, 0]) (st19_9_0 m s n t y false c x 0 n t tr 0 0 m s) = some (.exit 0, ex19_1 m s n t y z2 false c k2 0 i2 n t t2 0 0 m s tp2) := by
      rw [← ob_id ((ltow ..).lp _ _), lp_round, R19_9_0, ite2_pos (show gtI x 0 = true from by rw [gtI_dec]; exact decide_eq_true hx)]
      refine (congrArg (fun q => ob q _) h1).trans ?_
      refine (C19_1_0 _ _ _ _ _ _ _ _ _ _ _ _ _ _ _ _ _ _ tp _ _).trans ?_
      have e4 : wrapA IntKind.i64 (Int.tdiv x 10) = x / 10 := by rw [Int.tdiv_eq_ediv_of_nonneg x0]; exact wrapA_i64 (by omega) (by omega)
      have e5 : wrapA IntKind.i64 (Int.add ((0 : Nat) : Int) 1) = ((1 : Nat) : Int) := wsucc (a := 0) (by omega)
      rw [e4, e5, ob_id]; exact g1
    rw [hl, ob_of]
    refine (C19_1_1 _ _ _ _ _ _ _ _ _ _ _ _ _ _ _ _ _ _ tp2 _ _).trans ?_
    have hN : Hn D2 0 40 = x * y := by
      rw [g3, h3, Hn0, Int.tmod_eq_emod_of_nonneg x0]
      have hx2 : x * y = x % 10 * y + 10 * (x / 10 * y) := by
        have : x = x % 10 + 10 * (x / 10) := by omega
        conv => lhs; rw [this]
        rw [Int.add_mul, Int.mul_assoc]
      rw [hx2]
      simp only [Nat.add_zero, Int.pow_zero, Int.mul_one, Int.pow_one, Int.zero_add, Int.pow_succ]
      omega
    have hNb : x * y ≤ 1000000000000000 * 999999999999999 := Int.mul_le_mul (by omega) (by omega) y0 (by omega)
    exact tail1 s0 s1 t0 t1 g2 (fun j hj => by have := g4 j hj; omega) hN (by omega) (by omega)
  · obtain rfl : x = 0 := by omega
    have hl : (ltow Tryd.prog (fiAt fis 19) (kcall s19) none (f + 1)).lp (codeAt (code 19) [1, 1, 1, 1, 1, 1, 0, 1, 0, 0]) (st19_9_0 m s n t y false c 0 0 n t tr 0 0 m s) = some (.exit 0, ex19_0 m s n t y false c 0 0 n t tr 0 0 m s [(Prod.mk 36 (Value.bool false)), (Prod.mk 35 (Value.int IntKind.i64 0))]) := by
      rw [← ob_id ((ltow ..).lp _ _), lp_round, R19_9_0, ite2_neg (show gtI 0 0 = false from rfl)]
    rw [hl, ob_of]
    refine (C19_0_0 _ _ _ _ _ _ _ _ _ _ _ _ _ _ _ _ _ _ _).trans ?_
    exact tail0 (k := 0) (z := 0) s0 s1 t0 t1 hR (fun _ _ => ⟨Int.le_refl 0, by omega⟩) (by rw [Hn0, Int.zero_mul]) (by omega) (by omega)
theorem rmul_h : Holds Tryd.prog (19, mulS) := holds_of_K masks (s := s19) (fun x h => by
    simp only [List.mem_cons, List.not_mem_nil, or_false] at h
    rcases h with rfl | rfl
    · exact zero_h
    · exact norm_h) none Tryd.func19 (by kernel_rfl) (c := code 19) (by kernel_rfl) (rs := res 19) (by kernel_rfl) (by kernel_rfl) fun args v hG => by
  obtain ⟨⟨⟨m, s⟩, n, t⟩, h1, h⟩ := ob_some hG
  obtain ⟨hp, rfl⟩ := Prod.mk.inj (Option.some.inj h)
  rw [d2_some h1]
  rw [Bool.and_eq_true] at hp
  obtain ⟨vA, vB⟩ := hp
  refine ⟨rfl, rfl, rfl, 61, (K19 m s n t _ _).trans ?_⟩
  simp only at vA vB ⊢
  obtain ⟨m0, m1, s0, s1, -⟩ := valid_iff.1 vA
  obtain ⟨n0, n1, t0, t1, -⟩ := valid_iff.1 vB
  have e15 : (10 : Int) ^ 15 = 1000000000000000 := by decide
  have w1 : wrapA IntKind.i64 (Int.sub 0 m) = -m := (wrapA_i64 (show _ ≤ 0 - m by omega) (show 0 - m < _ by omega)).trans (Int.zero_sub _)
  have w2 : wrapA IntKind.i64 (Int.sub 0 n) = -n := (wrapA_i64 (show _ ≤ 0 - n by omega) (show 0 - n < _ by omega)).trans (Int.zero_sub _)
  show _ = some (decRes (m * n) (s + t))
  rw [w1, w2, ltI_eq, ltI_eq, show masks.l = fis from rfl]
  by_cases hm : m < 0
  · rw [decide_eq_true hm, ite2_true]
    by_cases hn : n < 0
    · rw [decide_eq_true hn, ite2_true]
      refine (rmul_loop (c := false) (x := -m) (y := -n) s0 s1 t0 t1 (by omega) (by omega) (by omega) (by omega) ro0 (Nat.le_refl _)).trans ?_
      rw [Int.neg_mul_neg]; rfl
    · rw [decide_eq_false hn, ite2_false]
      refine (rmul_loop (c := true) (x := -m) (y := n) s0 s1 t0 t1 (by omega) (by omega) (by omega) (by omega) ro0 (Nat.le_refl _)).trans ?_
      rw [Int.neg_mul, show Sp.sg true (-(m * n)) = m * n from Int.neg_neg _]
  · rw [decide_eq_false hm, ite2_false]
    by_cases hn : n < 0
    · rw [decide_eq_true hn, ite2_true]
      refine (rmul_loop (c := true) (x := m) (y := -n) s0 s1 t0 t1 (by omega) (by omega) (by omega) (by omega) ro0 (Nat.le_refl _)).trans ?_
      rw [Int.mul_neg, show Sp.sg true (-(m * n)) = m * n from Int.neg_neg _]
    · rw [decide_eq_false hn, ite2_false]
      refine (rmul_loop (c := false) (x := m) (y := n) s0 s1 t0 t1 (by omega) (by omega) (by omega) (by omega) ro0 (Nat.le_refl _)).trans ?_
      rfl

end
end Go.Proofs.YtpnjbagpplodjaaDoor
