/- Contracts: whole numbers made decimals by the reference; sums. -/
import Derived.Test.YtpnjbagpplodjaaDoorDeF
namespace Go.Proofs.YtpnjbagpplodjaaDoor
open Go.RowKit Go.Am
set_option maxRecDepth 1000000
set_option linter.unusedSimpArgs false
set_option linter.unusedVariables false
noncomputable section
/-! ### numbers made decimals by the document's reference; sums -/
theorem rwhole_loop (a b : Int) (minus : Bool) : ∀ (n : Nat) (hi lo x : Int) (k : Nat), 0 ≤ hi → hi < 4000000000000 → 0 ≤ lo → lo < 1000000000 → 0 ≤ x → x ≤ 6 → x ≤ n → n < k →
    ∃ H L tp, (ltow Tryd.prog (fiAt fis 46) (kcall [(36, normS)]) none k).lp (codeAt (code 46) [1, 1, 0, 0, 0]) (st46_2_0 a b minus false x 0 0 hi lo) = some (.exit 0, ex46_0 a b minus false (Sp.gd n (Sp.wide hi lo) x).2 0 0 H L tp) ∧
      Sp.wide H L = (Sp.gd n (Sp.wide hi lo) x).1 ∧ 0 ≤ H ∧ H < 4000000000000 ∧ 0 ≤ L ∧ L < 1000000000 := by
  intro n
  induction n with
  | zero =>
    intro hi lo x k h1 h2 h3 h4 h5 h6 h7 hk
    obtain ⟨k, rfl⟩ : ∃ j, k = j + 1 := ⟨k - 1, by omega⟩
    rw [← ob_id ((ltow ..).lp _ _), lp_round, R46_2_0]
    rw [ite2_neg (by rw [gtI_dec]; simp; omega)]
    exact ⟨_, _, _, rfl, rfl, h1, h2, h3, h4⟩
  | succ n ih =>
    intro hi lo x k h1 h2 h3 h4 h5 h6 h7 hk
    obtain ⟨k, rfl⟩ : ∃ j, k = j + 1 := ⟨k - 1, by omega⟩
    rw [← ob_id ((ltow ..).lp _ _), lp_round, R46_2_0]
    have t1 := tsplit lo 10 (by omega)
    have t2 := tsplit hi 10 (by omega)
    have t3 := tsplit (Sp.wide hi lo) 10 (by omega)
    have hw : Sp.wide hi lo = hi * 1000000000 + lo := rfl
    unfold Sp.gd
    by_cases hx : 0 < x
    · rw [ite2_pos (by rw [gtI_dec]; simp; exact hx)]
      by_cases hm : lo.tmod 10 = 0
      · rw [ite2_pos (by rw [eqI_dec]; simp; exact hm), if_pos ⟨hx, by omega⟩, ob_id]
        rw [show Int.sub x 1 = x - 1 from rfl, wrapA_i64 (x := x - 1) (by omega) (by omega), wrapA_i64 (x := hi.tdiv 10) (by omega) (by omega), wrapA_i64 (x := lo.tdiv 10) (by omega) (by omega)]
        rw [show Int.mul (hi.tmod 10) 100000000 = hi.tmod 10 * 100000000 from rfl, wrapA_i64 (x := hi.tmod 10 * 100000000) (by omega) (by omega), show Int.add (lo.tdiv 10) (hi.tmod 10 * 100000000) = lo.tdiv 10 + hi.tmod 10 * 100000000 from rfl, wrapA_i64 (x := lo.tdiv 10 + hi.tmod 10 * 100000000) (by omega) (by omega)]
        have e : (Sp.wide hi lo).tdiv 10 = Sp.wide (hi.tdiv 10) (lo.tdiv 10 + hi.tmod 10 * 100000000) := by
          show _ = hi.tdiv 10 * 1000000000 + (lo.tdiv 10 + hi.tmod 10 * 100000000)
          omega
        rw [e]
        exact ih (hi.tdiv 10) (lo.tdiv 10 + hi.tmod 10 * 100000000) (x - 1) k (by omega) (by omega) (by omega) (by omega) (by omega) (by omega) (by omega) (by omega)
      · rw [ite2_neg (by rw [eqI_dec]; simp; exact hm), if_neg (fun h => hm (by omega))]
        exact ⟨_, _, _, rfl, rfl, h1, h2, h3, h4⟩
    · rw [ite2_neg (by rw [gtI_dec]; simp; omega), if_neg (fun h => hx h.1)]
      exact ⟨_, _, _, rfl, rfl, h1, h2, h3, h4⟩
theorem rwhole_h : Holds Tryd.prog (46, rwholeS) := holds_of_K masks (s := [(36, normS)]) (fun x h => by rw [List.mem_singleton.1 h]; exact norm_h) none Tryd.func46 (by kernel_rfl) (c := code 46) (by kernel_rfl) (rs := res 46) (by kernel_rfl) (by kernel_rfl) fun args v hG => by
  obtain ⟨⟨⟨a, b⟩, minus⟩, h1, h⟩ := ob_some hG
  obtain ⟨hp, rfl⟩ := Prod.mk.inj (Option.some.inj h)
  rw [db_some h1]
  simp only [Sp.wid2, decide_eq_true_eq] at hp
  obtain ⟨a0, a1, b0, b1⟩ := hp
  refine ⟨rfl, rfl, rfl, 7, (K46 a b minus _ _).trans ?_⟩
  obtain ⟨H, L, tp, hl, hw, H0, H1, L0, L1⟩ := rwhole_loop a b minus 6 a b 6 7 a0 a1 b0 b1 (by omega) (by omega) (by omega) (by omega)
  rw [show masks.l = fis from rfl, hl, ob_of]
  refine (C46_0_0 _ _ _ _ _ _ _ _ _ _ _ _).trans ?_
  simp only
  obtain ⟨g1, g2, g3⟩ := gd_end 6 (Sp.wide a b) 6 (by omega) (by omega)
  have gf := gd_fuel 6 (Sp.wide a b) 6 7 (by omega) (by omega)
  have hwd : H * 1000000000 + L = (Sp.gd 6 (Sp.wide a b) 6).1 := hw
  generalize Sp.gd 6 (Sp.wide a b) 6 = q at *
  have e1 : Sp.gd 13 (Sp.sg minus (Sp.wide a b)) 6 = (Sp.sg minus q.1, q.2) := by rw [gd_sg, show (13 : Nat) = 6 + 7 from rfl, gf]
  have e2 : Sp.gd 13 (Sp.sg minus q.1) q.2 = (Sp.sg minus q.1, q.2) := by rw [gd_sg, gd_stop _ _ _ g1 g2]
  have e3 : decRes (Sp.sg minus (Sp.wide a b)) 6 = decRes (Sp.sg minus q.1) q.2 := by
    unfold decRes Sp.rM Sp.rS Sp.rOk
    rw [e1, e2]
  rw [e3, ← hwd]
  rw [← hwd] at e2
  by_cases hH : 1000000 ≤ H
  · rw [ite2_pos (show geI H 1000000 = true from by rw [geI_dec]; simpa using hH)]
    have ho : Sp.rOk (Sp.sg minus (H * 1000000000 + L)) q.2 = false := by
      cases ho : Sp.rOk (Sp.sg minus (H * 1000000000 + L)) q.2 with
      | false => rfl
      | true =>
        have := rOk_iff.1 ho
        rw [e2] at this
        simp only [Sp.sg] at this
        split at this <;> omega
    rw [decRes_no ho]; rfl
  · rw [ite2_neg (show geI H 1000000 = false from by rw [geI_dec]; simpa using hH)]
    have h12 : Sp.in12 q.2 = true := in12_iff.2 ⟨by omega, by omega⟩
    rw [show Int.mul H 1000000000 = H * 1000000000 from rfl, wrapA_i64 (x := H * 1000000000) (by omega) (by omega), show Int.add (H * 1000000000) L = H * 1000000000 + L from rfl, wrapA_i64 (x := H * 1000000000 + L) (by omega) (by omega), show Int.sub 0 (H * 1000000000 + L) = -(H * 1000000000 + L) from by show 0 - (H * 1000000000 + L) = _; omega, wrapA_i64 (x := -(H * 1000000000 + L)) (by omega) (by omega)]
    cases minus
    · rw [ite2_false, h12, in62_iff.2 ⟨by omega, by omega⟩]; rfl
    · rw [ite2_true, h12, in62_iff.2 ⟨by omega, by omega⟩]; rfl
theorem flt (s t : Int) (hs : Sp.in6 s = true) (ht : Sp.in6 t = true) : fcmpB .gtr .f64 (Sp.fl s) (Sp.fl t) = decide (t < s) := by
  revert t
  refine six (p := fun s => ∀ t, Sp.in6 t = true → fcmpB .gtr .f64 (Sp.fl s) (Sp.fl t) = decide (t < s)) (fun i => ?_) s hs
  match i with
  | 0 =>
    refine six (p := fun t => fcmpB .gtr .f64 (Sp.fl 0) (Sp.fl t) = decide (t < 0)) (fun j => ?_)
    match j with
    | 0 => exact (show fcmpB .gtr .f64 (Sp.fl 0) (Sp.fl 0) = decide ((0 : Int) < 0) by kernel_rfl)
    | 1 => exact (show fcmpB .gtr .f64 (Sp.fl 0) (Sp.fl 1) = decide ((1 : Int) < 0) by kernel_rfl)
    | 2 => exact (show fcmpB .gtr .f64 (Sp.fl 0) (Sp.fl 2) = decide ((2 : Int) < 0) by kernel_rfl)
    | 3 => exact (show fcmpB .gtr .f64 (Sp.fl 0) (Sp.fl 3) = decide ((3 : Int) < 0) by kernel_rfl)
    | 4 => exact (show fcmpB .gtr .f64 (Sp.fl 0) (Sp.fl 4) = decide ((4 : Int) < 0) by kernel_rfl)
    | 5 => exact (show fcmpB .gtr .f64 (Sp.fl 0) (Sp.fl 5) = decide ((5 : Int) < 0) by kernel_rfl)
    | 6 => exact (show fcmpB .gtr .f64 (Sp.fl 0) (Sp.fl 6) = decide ((6 : Int) < 0) by kernel_rfl)
  | 1 =>
    refine six (p := fun t => fcmpB .gtr .f64 (Sp.fl 1) (Sp.fl t) = decide (t < 1)) (fun j => ?_)
    match j with
    | 0 => exact (show fcmpB .gtr .f64 (Sp.fl 1) (Sp.fl 0) = decide ((0 : Int) < 1) by kernel_rfl)
    | 1 => exact (show fcmpB .gtr .f64 (Sp.fl 1) (Sp.fl 1) = decide ((1 : Int) < 1) by kernel_rfl)
    | 2 => exact (show fcmpB .gtr .f64 (Sp.fl 1) (Sp.fl 2) = decide ((2 : Int) < 1) by kernel_rfl)
    | 3 => exact (show fcmpB .gtr .f64 (Sp.fl 1) (Sp.fl 3) = decide ((3 : Int) < 1) by kernel_rfl)
    | 4 => exact (show fcmpB .gtr .f64 (Sp.fl 1) (Sp.fl 4) = decide ((4 : Int) < 1) by kernel_rfl)
    | 5 => exact (show fcmpB .gtr .f64 (Sp.fl 1) (Sp.fl 5) = decide ((5 : Int) < 1) by kernel_rfl)
    | 6 => exact (show fcmpB .gtr .f64 (Sp.fl 1) (Sp.fl 6) = decide ((6 : Int) < 1) by kernel_rfl)
  | 2 =>
    refine six (p := fun t => fcmpB .gtr .f64 (Sp.fl 2) (Sp.fl t) = decide (t < 2)) (fun j => ?_)
    match j with
    | 0 => exact (show fcmpB .gtr .f64 (Sp.fl 2) (Sp.fl 0) = decide ((0 : Int) < 2) by kernel_rfl)
    | 1 => exact (show fcmpB .gtr .f64 (Sp.fl 2) (Sp.fl 1) = decide ((1 : Int) < 2) by kernel_rfl)
    | 2 => exact (show fcmpB .gtr .f64 (Sp.fl 2) (Sp.fl 2) = decide ((2 : Int) < 2) by kernel_rfl)
    | 3 => exact (show fcmpB .gtr .f64 (Sp.fl 2) (Sp.fl 3) = decide ((3 : Int) < 2) by kernel_rfl)
    | 4 => exact (show fcmpB .gtr .f64 (Sp.fl 2) (Sp.fl 4) = decide ((4 : Int) < 2) by kernel_rfl)
    | 5 => exact (show fcmpB .gtr .f64 (Sp.fl 2) (Sp.fl 5) = decide ((5 : Int) < 2) by kernel_rfl)
    | 6 => exact (show fcmpB .gtr .f64 (Sp.fl 2) (Sp.fl 6) = decide ((6 : Int) < 2) by kernel_rfl)
  | 3 =>
    refine six (p := fun t => fcmpB .gtr .f64 (Sp.fl 3) (Sp.fl t) = decide (t < 3)) (fun j => ?_)
    match j with
    | 0 => exact (show fcmpB .gtr .f64 (Sp.fl 3) (Sp.fl 0) = decide ((0 : Int) < 3) by kernel_rfl)
    | 1 => exact (show fcmpB .gtr .f64 (Sp.fl 3) (Sp.fl 1) = decide ((1 : Int) < 3) by kernel_rfl)
    | 2 => exact (show fcmpB .gtr .f64 (Sp.fl 3) (Sp.fl 2) = decide ((2 : Int) < 3) by kernel_rfl)
    | 3 => exact (show fcmpB .gtr .f64 (Sp.fl 3) (Sp.fl 3) = decide ((3 : Int) < 3) by kernel_rfl)
    | 4 => exact (show fcmpB .gtr .f64 (Sp.fl 3) (Sp.fl 4) = decide ((4 : Int) < 3) by kernel_rfl)
    | 5 => exact (show fcmpB .gtr .f64 (Sp.fl 3) (Sp.fl 5) = decide ((5 : Int) < 3) by kernel_rfl)
    | 6 => exact (show fcmpB .gtr .f64 (Sp.fl 3) (Sp.fl 6) = decide ((6 : Int) < 3) by kernel_rfl)
  | 4 =>
    refine six (p := fun t => fcmpB .gtr .f64 (Sp.fl 4) (Sp.fl t) = decide (t < 4)) (fun j => ?_)
    match j with
    | 0 => exact (show fcmpB .gtr .f64 (Sp.fl 4) (Sp.fl 0) = decide ((0 : Int) < 4) by kernel_rfl)
    | 1 => exact (show fcmpB .gtr .f64 (Sp.fl 4) (Sp.fl 1) = decide ((1 : Int) < 4) by kernel_rfl)
    | 2 => exact (show fcmpB .gtr .f64 (Sp.fl 4) (Sp.fl 2) = decide ((2 : Int) < 4) by kernel_rfl)
    | 3 => exact (show fcmpB .gtr .f64 (Sp.fl 4) (Sp.fl 3) = decide ((3 : Int) < 4) by kernel_rfl)
    | 4 => exact (show fcmpB .gtr .f64 (Sp.fl 4) (Sp.fl 4) = decide ((4 : Int) < 4) by kernel_rfl)
    | 5 => exact (show fcmpB .gtr .f64 (Sp.fl 4) (Sp.fl 5) = decide ((5 : Int) < 4) by kernel_rfl)
    | 6 => exact (show fcmpB .gtr .f64 (Sp.fl 4) (Sp.fl 6) = decide ((6 : Int) < 4) by kernel_rfl)
  | 5 =>
    refine six (p := fun t => fcmpB .gtr .f64 (Sp.fl 5) (Sp.fl t) = decide (t < 5)) (fun j => ?_)
    match j with
    | 0 => exact (show fcmpB .gtr .f64 (Sp.fl 5) (Sp.fl 0) = decide ((0 : Int) < 5) by kernel_rfl)
    | 1 => exact (show fcmpB .gtr .f64 (Sp.fl 5) (Sp.fl 1) = decide ((1 : Int) < 5) by kernel_rfl)
    | 2 => exact (show fcmpB .gtr .f64 (Sp.fl 5) (Sp.fl 2) = decide ((2 : Int) < 5) by kernel_rfl)
    | 3 => exact (show fcmpB .gtr .f64 (Sp.fl 5) (Sp.fl 3) = decide ((3 : Int) < 5) by kernel_rfl)
    | 4 => exact (show fcmpB .gtr .f64 (Sp.fl 5) (Sp.fl 4) = decide ((4 : Int) < 5) by kernel_rfl)
    | 5 => exact (show fcmpB .gtr .f64 (Sp.fl 5) (Sp.fl 5) = decide ((5 : Int) < 5) by kernel_rfl)
    | 6 => exact (show fcmpB .gtr .f64 (Sp.fl 5) (Sp.fl 6) = decide ((6 : Int) < 5) by kernel_rfl)
  | 6 =>
    refine six (p := fun t => fcmpB .gtr .f64 (Sp.fl 6) (Sp.fl t) = decide (t < 6)) (fun j => ?_)
    match j with
    | 0 => exact (show fcmpB .gtr .f64 (Sp.fl 6) (Sp.fl 0) = decide ((0 : Int) < 6) by kernel_rfl)
    | 1 => exact (show fcmpB .gtr .f64 (Sp.fl 6) (Sp.fl 1) = decide ((1 : Int) < 6) by kernel_rfl)
    | 2 => exact (show fcmpB .gtr .f64 (Sp.fl 6) (Sp.fl 2) = decide ((2 : Int) < 6) by kernel_rfl)
    | 3 => exact (show fcmpB .gtr .f64 (Sp.fl 6) (Sp.fl 3) = decide ((3 : Int) < 6) by kernel_rfl)
    | 4 => exact (show fcmpB .gtr .f64 (Sp.fl 6) (Sp.fl 4) = decide ((4 : Int) < 6) by kernel_rfl)
    | 5 => exact (show fcmpB .gtr .f64 (Sp.fl 6) (Sp.fl 5) = decide ((5 : Int) < 6) by kernel_rfl)
    | 6 => exact (show fcmpB .gtr .f64 (Sp.fl 6) (Sp.fl 6) = decide ((6 : Int) < 6) by kernel_rfl)
/-- a number led to more digits: within bounds, or far beyond. -/
theorem up_facts (d : Int) (hd : Sp.in6 d = true) : ∀ n m : Int, -1000000000000000 < n → n < 1000000000000000 → -1000000000000000 < m → m < 1000000000000000 → (0 < d → m.tmod 10 ≠ 0) →
    ((Sp.abs n ≤ (Int.tdiv 4000000000000000 (Sp.p10 d)) * 1000 → -4000000000000000000 ≤ n * Sp.p10 d ∧ n * Sp.p10 d ≤ 4000000000000000000) ∧
     (¬ (Sp.abs n ≤ (Int.tdiv 4000000000000000 (Sp.p10 d)) * 1000) → (n * Sp.p10 d + m).tmod 10 ≠ 0 ∧ (1000000000000000 ≤ n * Sp.p10 d + m ∨ n * Sp.p10 d + m ≤ -1000000000000000))) := by
  refine six (p := fun d => ∀ n m : Int, -1000000000000000 < n → n < 1000000000000000 → -1000000000000000 < m → m < 1000000000000000 → (0 < d → m.tmod 10 ≠ 0) →
    ((Sp.abs n ≤ (Int.tdiv 4000000000000000 (Sp.p10 d)) * 1000 → -4000000000000000000 ≤ n * Sp.p10 d ∧ n * Sp.p10 d ≤ 4000000000000000000) ∧
     (¬ (Sp.abs n ≤ (Int.tdiv 4000000000000000 (Sp.p10 d)) * 1000) → (n * Sp.p10 d + m).tmod 10 ≠ 0 ∧ (1000000000000000 ≤ n * Sp.p10 d + m ∨ n * Sp.p10 d + m ≤ -1000000000000000)))) (fun i n m n0 n1 m0 m1 hm => ?_) d hd
  have ha : Sp.abs n = if n < 0 then -n else n := rfl
  match i with
  | 0 =>
    have hm' : (0 : Int) < 0 → m.tmod 10 ≠ 0 := hm
    have t1 := tsplit m 10 (by omega)
    have t2 := tsplit (n * 1 + m) 10 (by omega)
    show ((Sp.abs n ≤ 4000000000000000000 → -4000000000000000000 ≤ n * 1 ∧ n * 1 ≤ 4000000000000000000) ∧ (¬ (Sp.abs n ≤ 4000000000000000000) → (n * 1 + m).tmod 10 ≠ 0 ∧ (1000000000000000 ≤ n * 1 + m ∨ n * 1 + m ≤ -1000000000000000)))
    rw [ha]
    split <;> exact ⟨fun _ => by omega, fun _ => by omega⟩
  | 1 =>
    have hm' : (0 : Int) < 1 → m.tmod 10 ≠ 0 := hm
    have t1 := tsplit m 10 (by omega)
    have t2 := tsplit (n * 10 + m) 10 (by omega)
    show ((Sp.abs n ≤ 400000000000000000 → -4000000000000000000 ≤ n * 10 ∧ n * 10 ≤ 4000000000000000000) ∧ (¬ (Sp.abs n ≤ 400000000000000000) → (n * 10 + m).tmod 10 ≠ 0 ∧ (1000000000000000 ≤ n * 10 + m ∨ n * 10 + m ≤ -1000000000000000)))
    rw [ha]
    split <;> exact ⟨fun _ => by omega, fun _ => by omega⟩
  | 2 =>
    have hm' : (0 : Int) < 2 → m.tmod 10 ≠ 0 := hm
    have t1 := tsplit m 10 (by omega)
    have t2 := tsplit (n * 100 + m) 10 (by omega)
    show ((Sp.abs n ≤ 40000000000000000 → -4000000000000000000 ≤ n * 100 ∧ n * 100 ≤ 4000000000000000000) ∧ (¬ (Sp.abs n ≤ 40000000000000000) → (n * 100 + m).tmod 10 ≠ 0 ∧ (1000000000000000 ≤ n * 100 + m ∨ n * 100 + m ≤ -1000000000000000)))
    rw [ha]
    split <;> exact ⟨fun _ => by omega, fun _ => by omega⟩
  | 3 =>
    have hm' : (0 : Int) < 3 → m.tmod 10 ≠ 0 := hm
    have t1 := tsplit m 10 (by omega)
    have t2 := tsplit (n * 1000 + m) 10 (by omega)
    show ((Sp.abs n ≤ 4000000000000000 → -4000000000000000000 ≤ n * 1000 ∧ n * 1000 ≤ 4000000000000000000) ∧ (¬ (Sp.abs n ≤ 4000000000000000) → (n * 1000 + m).tmod 10 ≠ 0 ∧ (1000000000000000 ≤ n * 1000 + m ∨ n * 1000 + m ≤ -1000000000000000)))
    rw [ha]
    split <;> exact ⟨fun _ => by omega, fun _ => by omega⟩
  | 4 =>
    have hm' : (0 : Int) < 4 → m.tmod 10 ≠ 0 := hm
    have t1 := tsplit m 10 (by omega)
    have t2 := tsplit (n * 10000 + m) 10 (by omega)
    show ((Sp.abs n ≤ 400000000000000 → -4000000000000000000 ≤ n * 10000 ∧ n * 10000 ≤ 4000000000000000000) ∧ (¬ (Sp.abs n ≤ 400000000000000) → (n * 10000 + m).tmod 10 ≠ 0 ∧ (1000000000000000 ≤ n * 10000 + m ∨ n * 10000 + m ≤ -1000000000000000)))
    rw [ha]
    split <;> exact ⟨fun _ => by omega, fun _ => by omega⟩
  | 5 =>
    have hm' : (0 : Int) < 5 → m.tmod 10 ≠ 0 := hm
    have t1 := tsplit m 10 (by omega)
    have t2 := tsplit (n * 100000 + m) 10 (by omega)
    show ((Sp.abs n ≤ 40000000000000 → -4000000000000000000 ≤ n * 100000 ∧ n * 100000 ≤ 4000000000000000000) ∧ (¬ (Sp.abs n ≤ 40000000000000) → (n * 100000 + m).tmod 10 ≠ 0 ∧ (1000000000000000 ≤ n * 100000 + m ∨ n * 100000 + m ≤ -1000000000000000)))
    rw [ha]
    split <;> exact ⟨fun _ => by omega, fun _ => by omega⟩
  | 6 =>
    have hm' : (0 : Int) < 6 → m.tmod 10 ≠ 0 := hm
    have t1 := tsplit m 10 (by omega)
    have t2 := tsplit (n * 1000000 + m) 10 (by omega)
    show ((Sp.abs n ≤ 4000000000000 → -4000000000000000000 ≤ n * 1000000 ∧ n * 1000000 ≤ 4000000000000000000) ∧ (¬ (Sp.abs n ≤ 4000000000000) → (n * 1000000 + m).tmod 10 ≠ 0 ∧ (1000000000000000 ≤ n * 1000000 + m ∨ n * 1000000 + m ≤ -1000000000000000)))
    rw [ha]
    split <;> exact ⟨fun _ => by omega, fun _ => by omega⟩
theorem sum_val {m s n t : Int} (hs : 0 ≤ s) (hst : s ≤ t) (ht : t ≤ 6) : Sp.val m s + Sp.val n t = (m * Sp.p10 (t - s) + n) * 10 ^ (6 - t).toNat := by
  unfold Sp.val Sp.p10
  rw [Int.add_mul, Int.mul_assoc, ← Int.pow_add, show (t - s).toNat + (6 - t).toNat = (6 - s).toNat by omega]
theorem add_core (m s n t : Int) (hv : Sp.valid m s = true) (hw : Sp.valid n t = true) (hst : s ≤ t) :
    (ite2 (Sp.in6 (wrapA IntKind.i64 (Int.sub t s))) (ite2 (Sp.in62 m) (ite2 (ite2 (eqI (wrapA IntKind.u64 (Sp.p10 (wrapA IntKind.i64 (Int.sub t s)))) (0 : Int)) false true) (ite2 (gtI (Sp.abs m) (wrapA IntKind.u64 (Int.mul (wrapA IntKind.u64 (Int.tdiv (4000000000000000 : Int) (wrapA IntKind.u64 (Sp.p10 (wrapA IntKind.i64 (Int.sub t s)))))) (1000 : Int)))) (some (Value.tuple (Array.mk [(Value.agg (Array.mk [(Value.int IntKind.i64 (0 : Int)), (Value.int IntKind.i64 (0 : Int))])), (Value.bool false)]))) (ite2 (Sp.in62 (wrapA IntKind.i64 (Int.add (wrapA IntKind.i64 (Int.mul m (Sp.p10 (wrapA IntKind.i64 (Int.sub t s))))) n))) (ite2 (ite2 (eqI t t) true false) (ite2 (ite2 (Sp.in62 (Sp.abs (wrapA IntKind.i64 (Int.add (wrapA IntKind.i64 (Int.mul m (Sp.p10 (wrapA IntKind.i64 (Int.sub t s))))) n)))) (ite2 (leI (0 : Int) (Sp.abs (wrapA IntKind.i64 (Int.add (wrapA IntKind.i64 (Int.mul m (Sp.p10 (wrapA IntKind.i64 (Int.sub t s))))) n)))) (Sp.in12 t) false) false) (some (Value.tuple (Array.mk [(Value.agg (Array.mk [(Value.int IntKind.i64 (Sp.rM (Sp.sg (ltI (wrapA IntKind.i64 (Int.add (wrapA IntKind.i64 (Int.mul m (Sp.p10 (wrapA IntKind.i64 (Int.sub t s))))) n)) (0 : Int)) (Sp.abs (wrapA IntKind.i64 (Int.add (wrapA IntKind.i64 (Int.mul m (Sp.p10 (wrapA IntKind.i64 (Int.sub t s))))) n)))) t)), (Value.int IntKind.i64 (Sp.rS (Sp.sg (ltI (wrapA IntKind.i64 (Int.add (wrapA IntKind.i64 (Int.mul m (Sp.p10 (wrapA IntKind.i64 (Int.sub t s))))) n)) (0 : Int)) (Sp.abs (wrapA IntKind.i64 (Int.add (wrapA IntKind.i64 (Int.mul m (Sp.p10 (wrapA IntKind.i64 (Int.sub t s))))) n)))) t))])), (Value.bool (Sp.rOk (Sp.sg (ltI (wrapA IntKind.i64 (Int.add (wrapA IntKind.i64 (Int.mul m (Sp.p10 (wrapA IntKind.i64 (Int.sub t s))))) n)) (0 : Int)) (Sp.abs (wrapA IntKind.i64 (Int.add (wrapA IntKind.i64 (Int.mul m (Sp.p10 (wrapA IntKind.i64 (Int.sub t s))))) n)))) t))]))) (none)) (none)) (none))) (none)) (none)) (none)) = some (decRes (Sp.val m s + Sp.val n t) 6) := by
  obtain ⟨m0, m1, s0, s1, _⟩ := valid_iff.1 hv
  obtain ⟨n0, n1, t0, t1, hn⟩ := valid_iff.1 hw
  have hd : Sp.in6 (t - s) = true := in6_of (by omega) (by omega)
  obtain ⟨p0, p1⟩ := p10_range (t - s) hd
  obtain ⟨f1, f2⟩ := up_facts (t - s) hd m n m0 m1 n0 n1 (fun h => by omega)
  have hb : 0 ≤ Int.tdiv 4000000000000000 (Sp.p10 (t - s)) ∧ Int.tdiv 4000000000000000 (Sp.p10 (t - s)) ≤ 4000000000000000 := by
    have h1 := Int.tdiv_nonneg (show (0 : Int) ≤ 4000000000000000 by omega) (show 0 ≤ Sp.p10 (t - s) by omega)
    have h2 := Int.natAbs_tdiv_le_natAbs 4000000000000000 (Sp.p10 (t - s))
    omega
  have hsum : decRes (Sp.val m s + Sp.val n t) 6 = decRes (m * Sp.p10 (t - s) + n) t := by
    rw [sum_val s0 hst t1]
    have := res_scale (n := m * Sp.p10 (t - s) + n) (6 - t).toNat t0 (by omega)
    rw [show t + ((6 - t).toNat : Int) = 6 by omega] at this
    exact this
  rw [hsum]
  rw [show Int.sub t s = t - s from rfl, wrapA_i64 (x := t - s) (by omega) (by omega), hd, in62_iff.2 ⟨by omega, by omega⟩, wrapA_u64 (x := Sp.p10 (t - s)) (by omega) (by omega)]
  rw [ite2_true, ite2_true, ite2_not, show (!eqI (Sp.p10 (t - s)) 0) = true by rw [eqI_dec]; simp; omega, ite2_true]
  rw [wrapA_u64 (x := Int.tdiv 4000000000000000 (Sp.p10 (t - s))) (by omega) (by omega), show Int.mul (Int.tdiv 4000000000000000 (Sp.p10 (t - s))) 1000 = Int.tdiv 4000000000000000 (Sp.p10 (t - s)) * 1000 from rfl, wrapA_u64 (x := Int.tdiv 4000000000000000 (Sp.p10 (t - s)) * 1000) (by omega) (by omega)]
  by_cases hle : Sp.abs m ≤ (Int.tdiv 4000000000000000 (Sp.p10 (t - s))) * 1000
  · obtain ⟨g1, g2⟩ := f1 hle
    rw [ite2_neg (show gtI (Sp.abs m) (Int.tdiv 4000000000000000 (Sp.p10 (t - s)) * 1000) = false from by rw [gtI_dec]; simpa using hle)]
    rw [show Int.mul m (Sp.p10 (t - s)) = m * Sp.p10 (t - s) from rfl, wrapA_i64 (x := m * Sp.p10 (t - s)) (by omega) (by omega), show Int.add (m * Sp.p10 (t - s)) n = m * Sp.p10 (t - s) + n from rfl, wrapA_i64 (x := m * Sp.p10 (t - s) + n) (by omega) (by omega)]
    have zb : -4611686018427387904 < m * Sp.p10 (t - s) + n ∧ m * Sp.p10 (t - s) + n < 4611686018427387904 := by omega
    generalize m * Sp.p10 (t - s) + n = z at *
    have za : Sp.abs z = if z < 0 then -z else z := rfl
    have z1 : Sp.in62 (Sp.abs z) = true := in62_iff.2 (by rw [za]; split <;> omega)
    have z2 : leI 0 (Sp.abs z) = true := by rw [leI_dec]; simp only [decide_eq_true_eq]; rw [za]; split <;> omega
    have z3 : Sp.sg (ltI z 0) (Sp.abs z) = z := by
      rw [ltI_eq, za]
      by_cases hz : z < 0
      · simp [hz, Sp.sg]
      · simp [hz, Sp.sg]
    rw [in62_iff.2 ⟨by omega, by omega⟩, eqI_self, z1, z2, in12_iff.2 ⟨by omega, by omega⟩, z3]
    rfl
  · obtain ⟨g1, g2⟩ := f2 hle
    rw [ite2_pos (show gtI (Sp.abs m) (Int.tdiv 4000000000000000 (Sp.p10 (t - s)) * 1000) = true from by rw [gtI_dec]; simpa using hle)]
    have ho : Sp.rOk (m * Sp.p10 (t - s) + n) t = false := by
      cases ho : Sp.rOk (m * Sp.p10 (t - s) + n) t with
      | false => rfl
      | true =>
        have := rOk_iff.1 ho
        rw [gd_stop _ _ _ (.inr g1) t0] at this
        omega
    rw [decRes_no ho]; rfl
theorem add_h : Holds Tryd.prog (20, addS) := holds_of_K masks (s := [(43, validS), (40, pointS), (37, tenS), (41, absS), (33, wholeS)]) (fun x h => by
    simp only [List.mem_cons, List.not_mem_nil, or_false] at h
    rcases h with rfl | rfl | rfl | rfl | rfl
    · exact valid_h
    · exact point_h
    · exact ten_h
    · exact abs_h
    · exact whole_h) none Tryd.func20 (by kernel_rfl) (c := code 20) (by kernel_rfl) (rs := res 20) (by kernel_rfl) (by kernel_rfl) fun args v hG => by
  obtain ⟨⟨⟨m, s⟩, n, t⟩, h1, h⟩ := ob_some hG
  obtain ⟨hp, rfl⟩ := Prod.mk.inj (Option.some.inj h)
  rw [d2_some h1]
  refine ⟨rfl, rfl, rfl, 0, (K20 m s n t _ _).trans ?_⟩
  rw [Bool.and_eq_true] at hp
  simp only at hp ⊢
  obtain ⟨ha, hb⟩ := hp
  obtain ⟨_, _, s0, s1, _⟩ := valid_iff.1 ha
  obtain ⟨_, _, t0, t1, _⟩ := valid_iff.1 hb
  rw [ha, hb, flt s t (in6_of s0 s1) (in6_of t0 t1)]
  simp only [eqI_self, ite2_true, ite2_false]
  by_cases hts : t < s
  · rw [ite2_pos (by simpa using hts), show Int.add (Sp.val m s) (Sp.val n t) = Sp.val n t + Sp.val m s from Int.add_comm _ _]
    have := add_core n t m s hb ha (by omega)
    simp only [eqI_self, ite2_true] at this
    exact this
  · rw [ite2_neg (by simpa using hts)]
    have := add_core m s n t ha hb (by omega)
    simp only [eqI_self, ite2_true] at this
    exact this

end
end Go.Proofs.YtpnjbagpplodjaaDoor
