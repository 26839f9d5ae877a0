/- Quotients. -/
import Derived.Test.YtpnjbagpplodjaaDoorDeV
namespace Go.Proofs.YtpnjbagpplodjaaDoor
open Go.RowKit Go.Am
set_option maxRecDepth 1000000
set_option linter.unusedSimpArgs false
set_option linter.unusedVariables false
noncomputable section
namespace Sp
def tnOk (r n : Int) : Bool := decide (0 ≤ r ∧ r < n ∧ n < 9223372036854775808)
def i64 (n : Int) : Bool := decide (-9223372036854775808 ≤ n ∧ n < 9223372036854775808)
def qot (m s n : Int) : Int := Sp.sg (ltI m 0) (Sp.abs m * Sp.p10 (6 - s) / n)
def dM (m s n : Int) : Int := if n < 1 then 0 else Sp.rM (qot m s n) 6
def dS (m s n : Int) : Int := if n < 1 then 0 else Sp.rS (qot m s n) 6
def dB (m s n : Int) : Bool := if n < 1 then false else Sp.rOk (qot m s n) 6
end Sp
def divRes (m s n : Int) : Value := .tuple ⟨[decV (Sp.dM m s n) (Sp.dS m s n), .bool (Sp.dB m s n)]⟩
def tenthS : List Value → Option (Bool × Value) := fun l => ob (i2 l) fun p => some (Sp.tnOk p.1 p.2, .tuple ⟨[.int .i64 (10 * p.1 / p.2), .int .i64 (10 * p.1 % p.2)]⟩)
def di (l : List Value) : Option ((Int × Int) × Int) := match l with | [.agg ⟨[.int .i64 a, .int .i64 b]⟩, .int .i64 c] => some ((a, b), c) | _ => none
def divDS : List Value → Option (Bool × Value) := fun l => ob (di l) fun q => some (Sp.valid q.1.1 q.1.2 && Sp.i64 q.2, divRes q.1.1 q.1.2 q.2)
def st49_3_0 (x0 : Int) (x1 : Int) (x2 : Int) (x3 : Int) (x4 : Int) (x5 : Int) (x6 : Int) : St := (St.mk (Tr.nd (some (Value.int IntKind.i64 x0)) (Tr.nd (some (Value.int IntKind.i64 x1)) (Tr.nd none (Tr.nd (some (Value.int IntKind.i64 x2)) Tr.e Tr.e) Tr.e) (Tr.nd (some (Value.int IntKind.i64 x3)) Tr.e Tr.e)) (Tr.nd none (Tr.nd (some (Value.int IntKind.i64 x4)) (Tr.nd (some (Value.int IntKind.i64 x5)) Tr.e Tr.e) Tr.e) (Tr.nd (some (Value.int IntKind.i64 x6)) Tr.e Tr.e))) [] (Mem.mk Tr.e 6))
def ex49_0 (x0 : Int) (x1 : Int) (x2 : Int) (x3 : Int) (x4 : Int) (x5 : Int) (x6 : Int) (tp : Go.Am.Al) : St := (St.mk (Tr.nd (some (Value.int IntKind.i64 x0)) (Tr.nd (some (Value.int IntKind.i64 x1)) (Tr.nd none (Tr.nd (some (Value.int IntKind.i64 x2)) Tr.e Tr.e) Tr.e) (Tr.nd (some (Value.int IntKind.i64 x3)) Tr.e Tr.e)) (Tr.nd none (Tr.nd (some (Value.int IntKind.i64 x4)) (Tr.nd (some (Value.int IntKind.i64 x5)) Tr.e Tr.e) Tr.e) (Tr.nd (some (Value.int IntKind.i64 x6)) Tr.e Tr.e))) tp (Mem.mk Tr.e 6))
theorem K49 (r n : Int) (lp : Code → Run) (gs : Code → Nat → Run) : bodyK Tryd.prog (fiAt fis 49) [] lp gs (code 49) (res 49) [.int .i64 r, .int .i64 n] = (ob (lp (codeAt (code 49) [1, 1, 0, 1, 0, 0]) (st49_3_0 r n (0 : Int) (0 : Int) (0 : Int) (0 : Int) (0 : Int))) fun r => (contAt Tryd.prog (fiAt fis 49) (kcallK []) (kcall []) lp gs (code 49) [1, 1, 0, 1, 0] (retK Tryd.prog (fiAt fis 49) (res 49))) r.1 r.2) := by kernel_rfl
theorem R49_3_0 (x0 : Int) (x1 : Int) (x2 : Int) (x3 : Int) (x4 : Int) (x5 : Int) (x6 : Int) (lp : Code → Run) (gs : Code → Nat → Run) : bt (gcPre none (st49_3_0 x0 x1 x2 x3 x4 x5 x6)) (exK Tryd.prog (fiAt fis 49) (kcallK []) (kcall []) lp gs (codeAt (code 49) [1, 1, 0, 1, 0, 0]) (st49_3_0 x0 x1 x2 x3 x4 x5 x6) (fun e st => ob (goOn (fun st => ob (gcO none st) (lp (codeAt (code 49) [1, 1, 0, 1, 0, 0]))) e st) some)) = (ite2 (ltI x5 (10 : Int)) (ite2 (geI x2 (wrapA IntKind.i64 (Int.sub x1 x0))) (ob (lp (codeAt (code 49) [1, 1, 0, 1, 0, 0]) (st49_3_0 x0 x1 (wrapA IntKind.i64 (Int.sub x2 (wrapA IntKind.i64 (Int.sub x1 x0)))) x3 x4 (wrapA IntKind.i64 (Int.add x5 (1 : Int))) (wrapA IntKind.i64 (Int.add x6 (1 : Int))))) some) (ob (lp (codeAt (code 49) [1, 1, 0, 1, 0, 0]) (st49_3_0 x0 x1 (wrapA IntKind.i64 (Int.add x2 x0)) x3 x4 (wrapA IntKind.i64 (Int.add x5 (1 : Int))) x6)) some)) (some (Prod.mk (Ex.exit 0) (ex49_0 x0 x1 x2 x3 x4 x5 x6 [(Prod.mk 10 (Value.bool false)), (Prod.mk 9 (Value.int IntKind.i64 x5))])))) := by kernel_rfl
theorem C49_0_0 (x0 : Int) (x1 : Int) (x2 : Int) (x3 : Int) (x4 : Int) (x5 : Int) (x6 : Int) (tp : Go.Am.Al) (lp : Code → Run) (gs : Code → Nat → Run) : (contAt Tryd.prog (fiAt fis 49) (kcallK []) (kcall []) lp gs (code 49) [1, 1, 0, 1, 0] (retK Tryd.prog (fiAt fis 49) (res 49))) (Go.Am.Ex.exit 0) (ex49_0 x0 x1 x2 x3 x4 x5 x6 tp) = (some (Value.tuple (Array.mk [(Value.int IntKind.i64 x6), (Value.int IntKind.i64 x2)]))) := by kernel_rfl
theorem K25 (m s n : Int) (lp : Code → Run) (gs : Code → Nat → Run) : bodyK Tryd.prog (fiAt fis 25) [(43, validS), (41, absS), (37, tenS), (44, mul64S), (48, divS), (33, wholeGS)] lp gs (code 25) (res 25) [decV m s, .int .i64 n] = (ite2 (ltI n (1 : Int)) (some (Value.tuple (Array.mk [(Value.agg (Array.mk [(Value.int IntKind.i64 (0 : Int)), (Value.int IntKind.i64 (0 : Int))])), (Value.bool false)]))) (ite2 (ite2 (Sp.valid m s) false true) (some (Value.tuple (Array.mk [(Value.agg (Array.mk [(Value.int IntKind.i64 (0 : Int)), (Value.int IntKind.i64 (0 : Int))])), (Value.bool false)]))) (ite2 (Sp.in62 m) (ite2 (ite2 (eqI s s) true false) (ite2 (Sp.in6 (wrapA IntKind.i64 (Int.sub (6 : Int) s))) (ite2 (ite2 (Sp.u64 (Sp.abs m)) (Sp.u64 (wrapA IntKind.u64 (Sp.p10 (wrapA IntKind.i64 (Int.sub (6 : Int) s))))) false) (ite2 (ite2 (eqI (wrapA IntKind.u64 n) (0 : Int)) false true) (ite2 (ite2 (eqI (wrapA IntKind.u64 n) (0 : Int)) false true) (ite2 (Sp.dgOk (Int.tmod (Int.ediv (Int.mul (Sp.abs m) (wrapA IntKind.u64 (Sp.p10 (wrapA IntKind.i64 (Int.sub (6 : Int) s))))) (18446744073709551616 : Int)) (wrapA IntKind.u64 n)) (Int.emod (Int.mul (Sp.abs m) (wrapA IntKind.u64 (Sp.p10 (wrapA IntKind.i64 (Int.sub (6 : Int) s))))) (18446744073709551616 : Int)) (wrapA IntKind.u64 n)) (ite2 (Sp.wgOk (wrapA IntKind.u64 (Int.tdiv (Int.ediv (Int.mul (Sp.abs m) (wrapA IntKind.u64 (Sp.p10 (wrapA IntKind.i64 (Int.sub (6 : Int) s))))) (18446744073709551616 : Int)) (wrapA IntKind.u64 n))) (Sp.dvQ (Int.tmod (Int.ediv (Int.mul (Sp.abs m) (wrapA IntKind.u64 (Sp.p10 (wrapA IntKind.i64 (Int.sub (6 : Int) s))))) (18446744073709551616 : Int)) (wrapA IntKind.u64 n)) (Int.emod (Int.mul (Sp.abs m) (wrapA IntKind.u64 (Sp.p10 (wrapA IntKind.i64 (Int.sub (6 : Int) s))))) (18446744073709551616 : Int)) (wrapA IntKind.u64 n)) (6 : Int)) (some (Value.tuple (Array.mk [(Value.agg (Array.mk [(Value.int IntKind.i64 (Sp.rM (Sp.sg (ltI m (0 : Int)) (Int.add (Int.mul (wrapA IntKind.u64 (Int.tdiv (Int.ediv (Int.mul (Sp.abs m) (wrapA IntKind.u64 (Sp.p10 (wrapA IntKind.i64 (Int.sub (6 : Int) s))))) (18446744073709551616 : Int)) (wrapA IntKind.u64 n))) (18446744073709551616 : Int)) (Sp.dvQ (Int.tmod (Int.ediv (Int.mul (Sp.abs m) (wrapA IntKind.u64 (Sp.p10 (wrapA IntKind.i64 (Int.sub (6 : Int) s))))) (18446744073709551616 : Int)) (wrapA IntKind.u64 n)) (Int.emod (Int.mul (Sp.abs m) (wrapA IntKind.u64 (Sp.p10 (wrapA IntKind.i64 (Int.sub (6 : Int) s))))) (18446744073709551616 : Int)) (wrapA IntKind.u64 n)))) (6 : Int))), (Value.int IntKind.i64 (Sp.rS (Sp.sg (ltI m (0 : Int)) (Int.add (Int.mul (wrapA IntKind.u64 (Int.tdiv (Int.ediv (Int.mul (Sp.abs m) (wrapA IntKind.u64 (Sp.p10 (wrapA IntKind.i64 (Int.sub (6 : Int) s))))) (18446744073709551616 : Int)) (wrapA IntKind.u64 n))) (18446744073709551616 : Int)) (Sp.dvQ (Int.tmod (Int.ediv (Int.mul (Sp.abs m) (wrapA IntKind.u64 (Sp.p10 (wrapA IntKind.i64 (Int.sub (6 : Int) s))))) (18446744073709551616 : Int)) (wrapA IntKind.u64 n)) (Int.emod (Int.mul (Sp.abs m) (wrapA IntKind.u64 (Sp.p10 (wrapA IntKind.i64 (Int.sub (6 : Int) s))))) (18446744073709551616 : Int)) (wrapA IntKind.u64 n)))) (6 : Int)))])), (Value.bool (Sp.rOk (Sp.sg (ltI m (0 : Int)) (Int.add (Int.mul (wrapA IntKind.u64 (Int.tdiv (Int.ediv (Int.mul (Sp.abs m) (wrapA IntKind.u64 (Sp.p10 (wrapA IntKind.i64 (Int.sub (6 : Int) s))))) (18446744073709551616 : Int)) (wrapA IntKind.u64 n))) (18446744073709551616 : Int)) (Sp.dvQ (Int.tmod (Int.ediv (Int.mul (Sp.abs m) (wrapA IntKind.u64 (Sp.p10 (wrapA IntKind.i64 (Int.sub (6 : Int) s))))) (18446744073709551616 : Int)) (wrapA IntKind.u64 n)) (Int.emod (Int.mul (Sp.abs m) (wrapA IntKind.u64 (Sp.p10 (wrapA IntKind.i64 (Int.sub (6 : Int) s))))) (18446744073709551616 : Int)) (wrapA IntKind.u64 n)))) (6 : Int)))]))) (none)) (none)) (none)) (none)) (none)) (none)) (none)) (none)))) := by kernel_rfl
def failD : Value := .tuple ⟨[decV 0 0, .bool false]⟩
def nrmK (q t : Int) : Option Value := bt (Sp.in62 q && Sp.in12 t) (some (decRes q t))
def finK (m q t : Int) : Option Value := ite2 (ltI m 0) (nrmK (wrapA .i64 (Int.sub 0 q)) t) (nrmK q t)
def sumK (m t : Int) (l : List Int) : Int → Option Value :=
  List.rec (motive := fun _ => Int → Option Value) (fun q => finK m q t)
    (fun d _ ih q => ite2 (geI (wrapA .i64 (Int.add (wrapA .i64 (Int.mul 10 q)) d)) 1000000000000000) (some failD) (ih (wrapA .i64 (Int.add (wrapA .i64 (Int.mul 10 q)) d)))) l
def stripK (m s q : Int) (l : List Int) : Option Value :=
  List.rec (motive := fun _ => Option Value) (sumK m s [] q) (fun d ds ih => ite2 (eqI d 0) ih (sumK m (Int.add s (Int.ofNat (d :: ds).length)) (d :: ds).reverse q)) l
def digK (m s n q : Int) (k : Nat) : Int → List Int → Option Value :=
  Nat.rec (motive := fun _ => Int → List Int → Option Value) (fun _ acc => stripK m s q acc)
    (fun _ ih r acc => bt (Sp.tnOk r n) (ih (Int.emod (Int.mul 10 r) n) (Int.ediv (Int.mul 10 r) n :: acc))) k
def divK (m s n M : Int) (k : Nat) : Option Value := bt (!(eqI n 0)) (bt (!(eqI n 0)) (digK m s n (wrapA .i64 (Int.tdiv M n)) k (Int.tmod M n) []))
noncomputable abbrev s26 : List KSpec := [(49, tenthS), (36, normS)]
theorem K26_0 (m n : Int) : bodyU Tryd.prog (fiAt fis 26) s26 9 (code 26) (res 26) [decV m 0, .int .i64 n] = ite2 (ltI n 1) (some failD) (ite2 (ltI m 0) (divK m 0 n (wrapA .i64 (Int.sub 0 m)) 6) (divK m 0 n m 6)) := by kernel_rfl
theorem K26_1 (m n : Int) : bodyU Tryd.prog (fiAt fis 26) s26 9 (code 26) (res 26) [decV m 1, .int .i64 n] = ite2 (ltI n 1) (some failD) (ite2 (ltI m 0) (divK m 1 n (wrapA .i64 (Int.sub 0 m)) 5) (divK m 1 n m 5)) := by kernel_rfl
theorem K26_2 (m n : Int) : bodyU Tryd.prog (fiAt fis 26) s26 9 (code 26) (res 26) [decV m 2, .int .i64 n] = ite2 (ltI n 1) (some failD) (ite2 (ltI m 0) (divK m 2 n (wrapA .i64 (Int.sub 0 m)) 4) (divK m 2 n m 4)) := by kernel_rfl
theorem K26_3 (m n : Int) : bodyU Tryd.prog (fiAt fis 26) s26 9 (code 26) (res 26) [decV m 3, .int .i64 n] = ite2 (ltI n 1) (some failD) (ite2 (ltI m 0) (divK m 3 n (wrapA .i64 (Int.sub 0 m)) 3) (divK m 3 n m 3)) := by kernel_rfl
theorem K26_4 (m n : Int) : bodyU Tryd.prog (fiAt fis 26) s26 9 (code 26) (res 26) [decV m 4, .int .i64 n] = ite2 (ltI n 1) (some failD) (ite2 (ltI m 0) (divK m 4 n (wrapA .i64 (Int.sub 0 m)) 2) (divK m 4 n m 2)) := by kernel_rfl
theorem K26_5 (m n : Int) : bodyU Tryd.prog (fiAt fis 26) s26 9 (code 26) (res 26) [decV m 5, .int .i64 n] = ite2 (ltI n 1) (some failD) (ite2 (ltI m 0) (divK m 5 n (wrapA .i64 (Int.sub 0 m)) 1) (divK m 5 n m 1)) := by kernel_rfl
theorem K26_6 (m n : Int) : bodyU Tryd.prog (fiAt fis 26) s26 9 (code 26) (res 26) [decV m 6, .int .i64 n] = ite2 (ltI n 1) (some failD) (ite2 (ltI m 0) (divK m 6 n (wrapA .i64 (Int.sub 0 m)) 0) (divK m 6 n m 0)) := by kernel_rfl
/-! ### quotients by the reference -/
def foldD (q : Int) (l : List Int) : Int := l.foldl (fun a d => 10 * a + d) q
theorem foldD_nil (q : Int) : foldD q [] = q := rfl
theorem foldD_cons (q d : Int) (l : List Int) : foldD q (d :: l) = foldD (10 * q + d) l := rfl
theorem foldD_snoc (q d : Int) (l : List Int) : foldD q (l ++ [d]) = 10 * foldD q l + d := by unfold foldD; rw [List.foldl_append]; rfl
theorem foldD_le : ∀ (l : List Int) (q : Int), 0 ≤ q → (∀ d ∈ l, 0 ≤ d ∧ d ≤ 9) → q ≤ foldD q l := by
  intro l
  induction l with
  | nil => intro q h0 _; exact Int.le_refl q
  | cons d l ih =>
    intro q h0 hd
    have hd0 := hd d (List.mem_cons_self ..)
    have := ih (10 * q + d) (by omega) (fun x hx => hd x (List.mem_cons_of_mem _ hx))
    rw [foldD_cons]; omega
theorem decRes_ten {x t : Int} (t0 : 0 ≤ t) (t1 : t ≤ 11) : decRes (10 * x) (t + 1) = decRes x t := by
  refine decRes_gd ?_
  have e : Sp.gd 13 (10 * x) (t + 1) = Sp.gd 12 ((10 * x).tdiv 10) (t + 1 - 1) := by
    show (if 0 < t + 1 ∧ (10 * x).tmod 10 = 0 then Sp.gd 12 ((10 * x).tdiv 10) (t + 1 - 1) else (10 * x, t + 1)) = _
    rw [if_pos ⟨by omega, Int.mul_tmod_right 10 x⟩]
  rw [e, Int.mul_tdiv_cancel_left _ (by omega), show t + 1 - 1 = t by omega]
  exact (gd_fuel 12 x t 1 t0 (by omega)).symm
theorem sg_ten (c : Bool) (x : Int) : Sp.sg c (10 * x) = 10 * Sp.sg c x := by unfold Sp.sg; split <;> omega
theorem decRes_big {c : Bool} {x t : Int} (x1 : 1000000000000000 ≤ x) (hx : x.tmod 10 ≠ 0) (t0 : 0 ≤ t) : decRes (Sp.sg c x) t = failD := by
  refine decRes_no ?_
  cases ho : Sp.rOk (Sp.sg c x) t with
  | false => rfl
  | true =>
    have := rOk_iff.1 ho
    rw [gd_sg, gd_stop _ _ _ (.inr hx) t0] at this
    simp only [Sp.sg] at this
    split at this <;> omega
theorem fin_ok {m q t : Int} (q0 : 0 ≤ q) (q1 : q < 1000000000000000) (t0 : 0 ≤ t) (t1 : t ≤ 6) : finK m q t = some (decRes (Sp.sg (ltI m 0) q) t) := by
  unfold finK nrmK
  have i12 : Sp.in12 t = true := in12_iff.2 ⟨t0, by omega⟩
  have w1 : wrapA IntKind.i64 (Int.sub 0 q) = -q := (wrapA_i64 (show _ ≤ 0 - q by omega) (show 0 - q < _ by omega)).trans (Int.zero_sub _)
  rw [w1, i12, in62_iff.2 ⟨by omega, by omega⟩, in62_iff.2 ⟨by omega, by omega⟩]
  cases ltI m 0 <;> rfl
theorem sum_ok {m t : Int} (t0 : 0 ≤ t) (t1 : t ≤ 6) : ∀ (l : List Int) (q : Int), 0 ≤ q → q < 1000000000000000 → (∀ d ∈ l, 0 ≤ d ∧ d ≤ 9) → (l = [] ∨ (foldD q l).tmod 10 ≠ 0) → sumK m t l q = some (decRes (Sp.sg (ltI m 0) (foldD q l)) t) := by
  intro l
  induction l with
  | nil => intro q q0 q1 _ _; exact fin_ok q0 q1 t0 t1
  | cons d l ih =>
    intro q q0 q1 hd hl
    have hd0 := hd d (List.mem_cons_self ..)
    have hl' : (foldD (10 * q + d) l).tmod 10 ≠ 0 := by rcases hl with h | h; cases h; exact h
    have w1 : wrapA IntKind.i64 (Int.add (wrapA IntKind.i64 (Int.mul 10 q)) d) = 10 * q + d := by
      rw [show wrapA IntKind.i64 (Int.mul 10 q) = 10 * q from wrapA_i64 (show _ ≤ 10 * q by omega) (show 10 * q < _ by omega)]
      exact wrapA_i64 (show _ ≤ 10 * q + d by omega) (show 10 * q + d < _ by omega)
    show ite2 (geI (wrapA .i64 (Int.add (wrapA .i64 (Int.mul 10 q)) d)) 1000000000000000) (some failD) (sumK m t l (wrapA .i64 (Int.add (wrapA .i64 (Int.mul 10 q)) d))) = _
    rw [w1, foldD_cons]
    have hle := foldD_le l (10 * q + d) (by omega) (fun x hx => hd x (List.mem_cons_of_mem _ hx))
    by_cases hb : 1000000000000000 ≤ 10 * q + d
    · rw [ite2_pos (by rw [geI_dec]; exact decide_eq_true hb), decRes_big (by omega) hl' t0]
    · rw [ite2_neg (by rw [geI_dec]; exact decide_eq_false hb)]
      exact ih _ (by omega) (by omega) (fun x hx => hd x (List.mem_cons_of_mem _ hx)) (.inr hl')
theorem strip_ok {m s q : Int} (s0 : 0 ≤ s) (q0 : 0 ≤ q) (q1 : q < 1000000000000000) : ∀ (l : List Int), (∀ d ∈ l, 0 ≤ d ∧ d ≤ 9) → s + l.length ≤ 6 → stripK m s q l = some (decRes (Sp.sg (ltI m 0) (foldD q l.reverse)) (s + l.length)) := by
  intro l
  induction l with
  | nil =>
    intro _ h
    have := sum_ok (m := m) s0 (by simpa using h) [] q q0 q1 (fun _ h => by cases h) (.inl rfl)
    show sumK m s [] q = _
    rw [this]; simp
  | cons d l ih =>
    intro hd hs
    have hd0 := hd d (List.mem_cons_self ..)
    have hln : ((d :: l).length : Int) = l.length + 1 := by simp
    rw [hln] at hs ⊢
    show ite2 (eqI d 0) (stripK m s q l) (sumK m (Int.add s (Int.ofNat (d :: l).length)) (d :: l).reverse q) = _
    rw [List.reverse_cons, foldD_snoc]
    by_cases hz : d = 0
    · subst hz
      rw [ite2_pos (eqI_self 0), ih (fun x hx => hd x (List.mem_cons_of_mem _ hx)) (by omega), Int.add_zero, sg_ten, ← Int.add_assoc, decRes_ten (by omega) (by omega)]
    · rw [ite2_neg (by rw [eqI_dec]; exact decide_eq_false hz)]
      have e : Int.add s (Int.ofNat (d :: l).length) = s + (l.length + 1) := by show s + ((d :: l).length : Int) = _; rw [hln]
      have hle := foldD_le l.reverse q q0 (fun x hx => hd x (List.mem_cons_of_mem _ (List.mem_reverse.1 hx)))
      rw [e, ← foldD_snoc]
      refine sum_ok (by omega) (by omega) _ _ q0 q1 (fun x hx => ?_) (.inr ?_)
      · rcases List.mem_append.1 hx with h | h
        · exact hd x (List.mem_cons_of_mem _ (List.mem_reverse.1 h))
        · rw [List.mem_singleton.1 h]; exact hd0
      · rw [foldD_snoc, Int.tmod_eq_emod_of_nonneg (by omega)]; omega
theorem dig_step {r n : Int} (r0 : 0 ≤ r) (r1 : r < n) : 0 ≤ 10 * r / n ∧ 10 * r / n ≤ 9 ∧ 0 ≤ 10 * r % n ∧ 10 * r % n < n ∧ 10 * r = 10 * r / n * n + 10 * r % n := by
  refine ⟨Int.ediv_nonneg (by omega) (by omega), ?_, Int.emod_nonneg _ (by omega), Int.emod_lt_of_pos _ (by omega), ?_⟩
  · have : 10 * r / n < 10 := Int.ediv_lt_of_lt_mul (by omega) (by omega)
    omega
  · have := Int.mul_ediv_add_emod (10 * r) n
    rw [Int.mul_comm] at this; omega
theorem dig_ok {m s n q : Int} (s0 : 0 ≤ s) (n1 : n < 9223372036854775808) (q0 : 0 ≤ q) (q1 : q < 1000000000000000) : ∀ (k : Nat) (r : Int) (l : List Int), 0 ≤ r → r < n → (∀ d ∈ l, 0 ≤ d ∧ d ≤ 9) → s + l.length + k ≤ 6 →
    digK m s n q k r l = some (decRes (Sp.sg (ltI m 0) (foldD q l.reverse * 10 ^ k + 10 ^ k * r / n)) (s + l.length + k)) := by
  intro k
  induction k with
  | zero =>
    intro r l r0 r1 hd hs
    refine (strip_ok s0 q0 q1 l hd (by simpa using hs)).trans ?_
    rw [Int.pow_zero, Int.mul_one, Int.one_mul, Int.ediv_eq_zero_of_lt r0 r1]; simp
  | succ k ih =>
    intro r l r0 r1 hd hs
    obtain ⟨d0, d1, e0, e1, e⟩ := dig_step r0 r1
    show bt (Sp.tnOk r n) (digK m s n q k (10 * r % n) (10 * r / n :: l)) = _
    rw [show Sp.tnOk r n = true from decide_eq_true ⟨r0, r1, n1⟩]
    have hln : ((10 * r / n :: l).length : Int) = l.length + 1 := by simp
    refine (ih (10 * r % n) (10 * r / n :: l) e0 e1 (fun x hx => ?_) (by rw [hln]; omega)).trans ?_
    · rcases List.mem_cons.1 hx with h | h
      · rw [h]; exact ⟨d0, d1⟩
      · exact hd x h
    · rw [hln, List.reverse_cons, foldD_snoc]
      have h2 : (10 : Int) ^ (k + 1) * r / n = 10 ^ k * (10 * r / n) + 10 ^ k * (10 * r % n) / n := by
        rw [Int.pow_succ, Int.mul_assoc]
        conv => lhs; rw [e]
        rw [Int.mul_add, ← Int.mul_assoc, Int.add_comm, Int.add_mul_ediv_right _ _ (by omega)]; omega
      have e1 : (10 * foldD q l.reverse + 10 * r / n) * 10 ^ k + 10 ^ k * (10 * r % n) / n = foldD q l.reverse * 10 ^ (k + 1) + 10 ^ (k + 1) * r / n := by
        rw [h2, Int.pow_succ, Int.add_mul, Int.mul_comm 10 (foldD q l.reverse), Int.mul_assoc, Int.mul_comm 10 (10 ^ k), Int.mul_comm (10 * r / n) (10 ^ k)]; omega
      have e2 : s + (l.length + 1) + (k : Int) = s + l.length + ((k + 1 : Nat) : Int) := by rw [Int.natCast_succ]; omega
      rw [e1, e2]
theorem div_plain {M n : Int} (n0 : 0 < n) (k : Nat) : M / n * 10 ^ k + 10 ^ k * (M % n) / n = M * 10 ^ k / n := by
  have h := Int.mul_ediv_add_emod M n
  conv => rhs; rw [← h]
  rw [Int.add_mul, Int.mul_assoc, Int.mul_comm (M % n) (10 ^ k), Int.add_comm (n * _), Int.add_mul_ediv_left _ _ (by omega)]; omega
theorem divK_ok {m s n M : Int} {k : Nat} (s0 : 0 ≤ s) (hk : s + k = 6) (n0 : 0 < n) (n1 : n < 9223372036854775808) (M0 : 0 ≤ M) (M1 : M < 1000000000000000) : divK m s n M k = some (decRes (Sp.sg (ltI m 0) (M * 10 ^ k / n)) 6) := by
  unfold divK
  have hne : (!(eqI n 0)) = true := by rw [eqI_dec, decide_eq_false (by omega)]; rfl
  have q0 : 0 ≤ M / n := Int.ediv_nonneg M0 (by omega)
  have q1 : M / n ≤ M := Int.ediv_le_self n M0
  rw [hne, Int.tdiv_eq_ediv_of_nonneg M0, Int.tmod_eq_emod_of_nonneg M0, wrapA_i64 (by omega) (by omega)]
  refine (dig_ok s0 n1 q0 (by omega) k (M % n) [] (Int.emod_nonneg _ (by omega)) (Int.emod_lt_of_pos _ n0) (fun _ h => by cases h) (by simp; omega)).trans ?_
  rw [List.reverse_nil, foldD_nil, div_plain n0]
  congr 2
  simp; omega
theorem tenth_end {r n d l : Int} (h : d * n + l = 10 * r) (l0 : 0 ≤ l) (l1 : l < n) : 10 * r / n = d ∧ 10 * r % n = l := by
  have e : 10 * r / n = d := by
    rw [← h, Int.add_comm, Int.add_mul_ediv_right _ _ (by omega), Int.ediv_eq_zero_of_lt l0 l1]; omega
  refine ⟨e, ?_⟩
  have := Int.mul_ediv_add_emod (10 * r) n
  rw [e, Int.mul_comm] at this
  omega
theorem tenth_loop {r n x3 x4 : Int} (r0 : 0 ≤ r) (r1 : r < n) (n1 : n < 9223372036854775808) : ∀ (j i : Nat) (d l : Int) (f : Nat), i + j = 10 → d * n + l = (i : Int) * r → 0 ≤ l → l < n → 0 ≤ d → d ≤ i → j < f →
    ∃ tp, (ltow Tryd.prog (fiAt fis 49) (kcall []) none f).lp (codeAt (code 49) [1, 1, 0, 1, 0, 0]) (st49_3_0 r n l x3 x4 (i : Int) d) = some (.exit 0, ex49_0 r n (10 * r % n) x3 x4 10 (10 * r / n) tp) := by
  intro j
  induction j with
  | zero =>
    intro i d l f hi he l0 l1 d0 d1 hf
    obtain ⟨f, rfl⟩ : ∃ g, f = g + 1 := ⟨f - 1, by omega⟩
    obtain rfl : i = 10 := by omega
    obtain ⟨e1, e2⟩ := tenth_end (r := r) (n := n) he l0 l1
    rw [← ob_id ((ltow ..).lp _ _), lp_round, R49_3_0, ite2_neg (show ltI ((10 : Nat) : Int) 10 = false from rfl), e1, e2]
    exact ⟨_, rfl⟩
  | succ j ih =>
    intro i d l f hi he l0 l1 d0 d1 hf
    obtain ⟨f, rfl⟩ : ∃ g, f = g + 1 := ⟨f - 1, by omega⟩
    have w1 : wrapA IntKind.i64 (Int.sub n r) = n - r := wrapA_i64 (show _ ≤ n - r by omega) (show n - r < _ by omega)
    have w2 : wrapA IntKind.i64 (Int.add (i : Int) 1) = ((i + 1 : Nat) : Int) := wsucc (by omega)
    rw [← ob_id ((ltow ..).lp _ _), lp_round, R49_3_0, ite2_pos (show ltI (i : Int) 10 = true from by rw [ltI_eq]; exact decide_eq_true (by omega)), w1, w2]
    have hi1 : ((i + 1 : Nat) : Int) * r = (i : Int) * r + r := by rw [Int.natCast_succ, Int.add_mul, Int.one_mul]
    by_cases hb : n - r ≤ l
    · rw [ite2_pos (by rw [geI_dec]; exact decide_eq_true hb), ob_id, show wrapA IntKind.i64 (Int.sub l (n - r)) = l - (n - r) from wrapA_i64 (show _ ≤ l - (n - r) by omega) (show l - (n - r) < _ by omega), show wrapA IntKind.i64 (Int.add d 1) = d + 1 from wrapA_i64 (show _ ≤ d + 1 by omega) (show d + 1 < _ by omega)]
      exact ih (i + 1) (d + 1) (l - (n - r)) f (by omega) (by rw [hi1, Int.add_mul, Int.one_mul]; omega) (by omega) (by omega) (by omega) (by omega) (by omega)
    · rw [ite2_neg (by rw [geI_dec]; exact decide_eq_false hb), ob_id, show wrapA IntKind.i64 (Int.add l r) = l + r from wrapA_i64 (show _ ≤ l + r by omega) (show l + r < _ by omega)]
      exact ih (i + 1) d (l + r) f (by omega) (by rw [hi1]; omega) (by omega) (by omega) (by omega) (by omega) (by omega)
theorem tenth_h : Holds Tryd.prog (49, tenthS) := holds_of_K masks (s := []) (fun _ h => by cases h) none Tryd.func49 (by kernel_rfl) (c := code 49) (by kernel_rfl) (rs := res 49) (by kernel_rfl) (by kernel_rfl) fun args v hG => by
  obtain ⟨⟨r, n⟩, h1, h⟩ := ob_some hG
  obtain ⟨hp, rfl⟩ := Prod.mk.inj (Option.some.inj h)
  rw [i2_some h1]
  simp only [Sp.tnOk, decide_eq_true_eq] at hp
  obtain ⟨r0, r1, n1⟩ := hp
  refine ⟨rfl, rfl, rfl, 11, (K49 r n _ _).trans ?_⟩
  obtain ⟨tp, hl⟩ := tenth_loop (x3 := 0) (x4 := 0) r0 r1 n1 10 0 0 0 11 (by omega) (by simp) (by omega) (by omega) (by omega) (by omega) (by omega)
  refine (congrArg (fun q => ob q _) hl).trans ?_
  exact C49_0_0 _ _ _ _ _ _ _ _ _ _
theorem di_some {l : List Value} {q : (Int × Int) × Int} (h : di l = some q) : l = [decV q.1.1 q.1.2, .int .i64 q.2] := by
  unfold di at h; split at h
  · obtain rfl := Option.some.inj h; rfl
  · cases h
theorem ofU {n : Nat} {s : List KSpec} {f : FuncId} {args : List Value} {v : Value} (h : bodyU Tryd.prog (fiAt fis f) s n (code f) (res f) args = some v) : bodyK Tryd.prog (fiAt masks.l f) s (ltow Tryd.prog (fiAt masks.l f) (kcall s) none n).lp (ltow Tryd.prog (fiAt masks.l f) (kcall s) none n).gs (code f) (res f) args = some v :=
  (bodyU_eq _ _ _ _ _ _ _).symm.trans h
theorem divRes_eq (m s n : Int) : divRes m s n = if n < 1 then .tuple ⟨[decV 0 0, .bool false]⟩ else decRes (Sp.qot m s n) 6 := by
  unfold divRes Sp.dM Sp.dS Sp.dB
  by_cases h : n < 1
  · simp only [if_pos h]
  · simp only [if_neg h]; rfl
theorem rdiv_at {m n : Int} (m0 : -1000000000000000 < m) (m1 : m < 1000000000000000) (n1 : n < 9223372036854775808) {s : Int} {k : Nat} (s0 : 0 ≤ s) (hk : s + k = 6) :
    ite2 (ltI n 1) (some failD) (ite2 (ltI m 0) (divK m s n (wrapA .i64 (Int.sub 0 m)) k) (divK m s n m k)) = some (divRes m s n) := by
  rw [divRes_eq, ltI_eq]
  by_cases hn : n < 1
  · rw [decide_eq_true hn, if_pos hn]; rfl
  · rw [decide_eq_false hn, if_neg hn, ite2_false]
    have hq : (6 - s).toNat = k := by omega
    unfold Sp.qot Sp.p10 Sp.abs
    rw [hq]
    by_cases hm : m < 0
    · have w1 : wrapA IntKind.i64 (Int.sub 0 m) = -m := (wrapA_i64 (show _ ≤ 0 - m by omega) (show 0 - m < _ by omega)).trans (Int.zero_sub _)
      rw [if_pos hm, ite2_pos (by rw [ltI_eq]; exact decide_eq_true hm), w1]
      exact divK_ok s0 hk (by omega) n1 (by omega) (by omega)
    · rw [if_neg hm, ite2_neg (by rw [ltI_eq]; exact decide_eq_false hm)]
      exact divK_ok s0 hk (by omega) n1 (by omega) (by omega)
theorem rdiv_h : Holds Tryd.prog (26, divDS) := holds_of_K masks (s := s26) (fun x h => by
    simp only [List.mem_cons, List.not_mem_nil, or_false] at h
    rcases h with rfl | rfl
    · exact tenth_h
    · exact norm_h) none Tryd.func26 (by kernel_rfl) (c := code 26) (by kernel_rfl) (rs := res 26) (by kernel_rfl) (by kernel_rfl) fun args v hG => by
  obtain ⟨⟨⟨m, s⟩, n⟩, h1, h⟩ := ob_some hG
  obtain ⟨hp, rfl⟩ := Prod.mk.inj (Option.some.inj h)
  rw [di_some h1]
  rw [Bool.and_eq_true] at hp
  obtain ⟨vA, vn⟩ := hp
  obtain ⟨m0, m1, s0, s1, -⟩ := valid_iff.1 vA
  simp only [Sp.i64, decide_eq_true_eq] at vn
  refine ⟨rfl, rfl, rfl, 9, ofU ?_⟩
  have hs : s = 0 ∨ s = 1 ∨ s = 2 ∨ s = 3 ∨ s = 4 ∨ s = 5 ∨ s = 6 := by simp only at s0 s1; omega
  rcases hs with rfl | rfl | rfl | rfl | rfl | rfl | rfl
  · exact (K26_0 m n).trans (rdiv_at m0 m1 vn.2 (by decide) (by decide))
  · exact (K26_1 m n).trans (rdiv_at m0 m1 vn.2 (by decide) (by decide))
  · exact (K26_2 m n).trans (rdiv_at m0 m1 vn.2 (by decide) (by decide))
  · exact (K26_3 m n).trans (rdiv_at m0 m1 vn.2 (by decide) (by decide))
  · exact (K26_4 m n).trans (rdiv_at m0 m1 vn.2 (by decide) (by decide))
  · exact (K26_5 m n).trans (rdiv_at m0 m1 vn.2 (by decide) (by decide))
  · exact (K26_6 m n).trans (rdiv_at m0 m1 vn.2 (by decide) (by decide))
noncomputable abbrev s25 : List KSpec := [(43, validS), (41, absS), (37, tenS), (44, mul64S), (48, divS), (33, wholeGS)]
theorem div_wide {X n : Int} (X0 : 0 ≤ X) (n0 : 0 < n) : X / 18446744073709551616 / n * 18446744073709551616 + (X / 18446744073709551616 % n * 18446744073709551616 + X % 18446744073709551616) / n = X / n := by
  have h := Int.mul_ediv_add_emod (X / 18446744073709551616) n
  have h2 : X = (X / 18446744073709551616 / n * 18446744073709551616) * n + (X / 18446744073709551616 % n * 18446744073709551616 + X % 18446744073709551616) := by
    have e : X / 18446744073709551616 / n * 18446744073709551616 * n = n * (X / 18446744073709551616 / n) * 18446744073709551616 := by
      rw [Int.mul_right_comm, Int.mul_comm n]
    rw [e]; omega
  conv => rhs; rw [h2]
  rw [Int.add_comm (_ * n), Int.add_mul_ediv_right _ _ (by omega)]; omega
theorem p10_le {s : Int} (s0 : 0 ≤ s) (s1 : s ≤ 6) : 1 ≤ Sp.p10 s ∧ Sp.p10 s ≤ 1000000 := by
  have hs : s = 0 ∨ s = 1 ∨ s = 2 ∨ s = 3 ∨ s = 4 ∨ s = 5 ∨ s = 6 := by omega
  rcases hs with rfl | rfl | rfl | rfl | rfl | rfl | rfl <;> decide
theorem divd_h : Holds Tryd.prog (25, divDS) := holds_of_K masks (s := s25) (fun x h => by
    simp only [List.mem_cons, List.not_mem_nil, or_false] at h
    rcases h with rfl | rfl | rfl | rfl | rfl | rfl
    · exact valid_h
    · exact abs_h
    · exact ten_h
    · exact mul64_h
    · exact div_h
    · exact gwhole_h) none Tryd.func25 (by kernel_rfl) (c := code 25) (by kernel_rfl) (rs := res 25) (by kernel_rfl) (by kernel_rfl) fun args v hG => by
  obtain ⟨⟨⟨m, s⟩, n⟩, h1, h⟩ := ob_some hG
  obtain ⟨hp, rfl⟩ := Prod.mk.inj (Option.some.inj h)
  rw [di_some h1]
  rw [Bool.and_eq_true] at hp
  obtain ⟨vA, vn⟩ := hp
  obtain ⟨m0, m1, s0, s1, -⟩ := valid_iff.1 vA
  simp only [Sp.i64, decide_eq_true_eq] at vn
  simp only at vA vn m0 m1 s0 s1
  refine ⟨rfl, rfl, rfl, 0, (K25 m s n _ _).trans ?_⟩
  simp only
  rw [divRes_eq, ltI_eq]
  by_cases hn : n < 1
  · rw [decide_eq_true hn]; simp only [if_pos hn]; rfl
  · simp only [if_neg hn]
    rw [decide_eq_false hn, ite2_false, vA]
    have w1 : wrapA IntKind.i64 (Int.sub 6 s) = 6 - s := wrapA_i64 (show _ ≤ 6 - s by omega) (show 6 - s < _ by omega)
    obtain ⟨p0, p1⟩ := p10_le (s := 6 - s) (by omega) (by omega)
    have i6 : Sp.in6 (6 - s) = true := decide_eq_true ⟨by omega, by omega⟩
    have hu : wrapA IntKind.u64 n = n := wrapA_u64 (by omega) (by omega)
    unfold Sp.qot
    rw [w1, hu, eqI_self, in62_iff.2 ⟨by omega, by omega⟩, i6]
    obtain ⟨p, hpp⟩ : ∃ p, Sp.p10 (6 - s) = p := ⟨_, rfl⟩
    obtain ⟨a, ha⟩ : ∃ a, Sp.abs m = a := ⟨_, rfl⟩
    rw [hpp] at p0 p1 ⊢
    have ha1 : 0 ≤ a ∧ a < 1000000000000000 := by rw [← ha]; unfold Sp.abs; split <;> omega
    rw [ha, show wrapA IntKind.u64 p = p from wrapA_u64 (by omega) (by omega), show Sp.u64 a = true from decide_eq_true ⟨by omega, by omega⟩, show Sp.u64 p = true from decide_eq_true ⟨by omega, by omega⟩, show eqI n 0 = false from by rw [eqI_dec]; exact decide_eq_false (by omega)]
    have X0 : 0 ≤ a * p := Int.mul_nonneg ha1.1 (by omega)
    have X1 : a * p ≤ 1000000000000000 * 1000000 := Int.mul_le_mul (by omega) p1 (by omega) (by omega)
    obtain ⟨X, hX⟩ : ∃ X, a * p = X := ⟨_, rfl⟩
    rw [show Int.mul a p = X from hX]
    rw [hX] at X0 X1 ⊢
    obtain ⟨hi, hhi⟩ : ∃ hi, X / 18446744073709551616 = hi := ⟨_, rfl⟩
    obtain ⟨lo, hlo⟩ : ∃ lo, X % 18446744073709551616 = lo := ⟨_, rfl⟩
    have hw := div_wide X0 (show 0 < n by omega)
    rw [hhi, hlo] at hw
    have hi0 : 0 ≤ hi := by omega
    have q0 : 0 ≤ hi / n := Int.ediv_nonneg hi0 (by omega)
    have q1 : hi / n ≤ hi := Int.ediv_le_self n hi0
    have r0 := Int.emod_nonneg hi (show n ≠ 0 by omega)
    have r1 := Int.emod_lt_of_pos hi (show 0 < n by omega)
    rw [show Int.ediv X 18446744073709551616 = hi from hhi, show Int.emod X 18446744073709551616 = lo from hlo, Int.tmod_eq_emod_of_nonneg hi0, Int.tdiv_eq_ediv_of_nonneg hi0, wrapA_u64 q0 (by omega),
      show Sp.dgOk (hi % n) lo n = true from decide_eq_true ⟨r0, r1, by omega, by omega, by omega⟩]
    have d0 : 0 ≤ Sp.dvQ (hi % n) lo n := Int.ediv_nonneg (by omega) (by omega)
    have d1 : Sp.dvQ (hi % n) lo n < 18446744073709551616 := Int.ediv_lt_of_lt_mul (by omega) (by omega)
    rw [show Sp.wgOk (hi / n) (Sp.dvQ (hi % n) lo n) 6 = true from decide_eq_true ⟨q0, by omega, d0, d1, by omega, by omega⟩]
    have e : Int.add (Int.mul (hi / n) 18446744073709551616) (Sp.dvQ (hi % n) lo n) = X / n := hw
    rw [e]; rfl

end
end Go.Proofs.YtpnjbagpplodjaaDoor
